/- reader.expand of any text, whatever is answered: the walk. (Printed by expw.py.) -/
import Derived.Test.YtpflnhbhgcediaaFExpEa
namespace Go.Proofs.Ytpflnhbhgcediaa.Ex4
open Go.RowKit Go.Proofs.YtpflnhbhgcediaaW.PrintWords Go.Proofs.YtpflnhbhgcediaaW.PrintLast Go.Proofs.YtpflnhbhgcediaaW.PrintMore Go.Proofs.YtpflnhbhgcediaaN Go.Proofs.Ytpflnhbhgcediaa.FnVal Go.Proofs.Ytpflnhbhgcediaa.Str Go.Proofs.Ytpflnhbhgcediaa.Esc4 Go.Proofs.Ytpflnhbhgcediaa.Ask4 Go.Proofs.Ytpflnhbhgcediaa.Plain4 Go.Proofs.Ytpflnhbhgcediaa.QEa
set_option linter.unusedVariables false
set_option linter.unusedSimpArgs false
set_option maxHeartbeats 16000000 in
set_option maxRecDepth 100000 in
theorem expand_ex (w0 : World) (B b tb : Nat) (cp : Bool) (L : List ByteArray) (hL : L.length ≤ 1000) (hLs : ∀ a, (anL L a).length ≤ 100000) (Aa : Option Addr) (ca : Nat) (n : Nat) : ∀ (s0 : List UInt8) (A0 : List As), need A0 s0 < n → s0.length ≤ 8000 → A0.length ≤ 500 → ∀ w, Sr w0 B b tb cp L Aa ca A0 w →
    Calls Try.prog 20 #[.pointer (some ⟨b, 0, none⟩), .string (mkB s0)] w (Done w0 w B b tb cp L Aa ca (ex cp (anL L) n [] s0 A0)) := by
  induction n using Nat.strongRecOn with
  | _ n IH =>
  intro s0 A0 hn hs0 hA0 w hsr
  have IH := Aside0.mk IH
  have HL := Aside0.mk hL
  have HLS := Aside0.mk hLs
  have H0 := Aside0.mk hsr
  have HN0 := Aside0.mk hn
  have HS0 := Aside0.mk hs0
  have HA0 := Aside0.mk hA0
  have hu58 := Try.underlying58
  obtain ⟨R, hR⟩ : ∃ R, ex cp (anL L) n [] s0 A0 = R := ⟨_, rfl⟩
  rw [hR]
  have HR := Aside0.mk hR
  clear hn hs0 hA0 hsr hL hLs hR
  go_enter Try.func20, Try.ntmps20
  go_wp2
  go_loopg [1] n (fun kq v1 w' => ∃ (out s : List UInt8) (A : List As), Aside0 (ex cp (anL L) kq out s A = R ∧ need A s < kq ∧ out.length + s.length ≤ 8000 ∧ kq ≤ n ∧ A.length ≤ 500) ∧ v1 = .string (mkB s) ∧ Aside0 (Se w0 w B b tb cp L Aa ca A out w'))
  case atStart => exact ⟨[], s0, A0, ⟨HR.out, HN0.out, by simpa using HS0.out, Nat.le_refl _, HA0.out⟩, rfl, ⟨⟨Lib.IsBuilderF.of (Lib.fresh_isBuilder 66 5 w), H0.out.below (below_alloc (Below.refl _ _) _), Fr.below (below_alloc (Below.refl _ _) _), (below_alloc (Below.refl w.heap.size w) _).size, blk_lt H0.out.rd, (by obtain ⟨v, hg, _⟩ := H0.out.tl.tel; exact blk_lt hg), H0.out.tl.bel.size⟩⟩⟩
  case round =>
    obtain ⟨out, s, A, H1, rfl, HS⟩ := hrel
    cases gk with
    | zero => exact absurd H1.out.2.1 (by omega)
    | succ k1 =>
    have HQ := Aside0.mk (show need A s ≤ k1 ∧ out.length + s.length ≤ 8000 ∧ k1 + 1 ≤ n ∧ A.length ≤ 500 by have := H1.out; omega)
    obtain ⟨S, hS⟩ : ∃ S, mkB s = S := ⟨_, rfl⟩
    have HSS := Aside0.mk hS
    cases hc : cutB 92 s with
    | none =>
      have HR2 := Aside0.mk (show R = .ok (out ++ s) A by rw [← H1.out.1, ex_none hc])
      have HI := Aside0.mk (show Lib.indexByte S.data.toList (92 : Int).toNat.toUInt8 = -1 by rw [← hS, data_mkB]; exact ix_no 92 s (cut_none hc))
      by_cases he : S.toList.isEmpty = true
      · have hr0 : s = [] := by
          rw [← hS, toList_mkB] at he
          simpa using he
        have HR3 := Aside0.mk (show R = .ok out A by rw [HR2.out, hr0, List.append_nil])
        rw [hS]
        clear hS hc hr0 HR2 H1
        go_wp2_with (first | (go_at_call 32; refine (stre HS.out).mono ?_; rintro e wz ⟨rfl, hsz, hfz⟩; have EZ := Aside0.mk (And.intro hsz hfz); clear hsz hfz))
        refine bodyPost_ret (results_tmp rfl _ _ _) rfl ?_
        rw [HR3.out]
        exact ⟨rfl, EZ.out⟩
      · have he2 : S.toList.isEmpty = false := Bool.eq_false_iff.2 he
        have HPB := Aside0.mk (show out.length + S.size ≤ 1000000 by rw [← hS, size_mkB]; have := HQ.out; omega)
        have HR3 := Aside0.mk (show R = .ok (out ++ S.data.toList) A by rw [HR2.out, ← hS, data_mkB])
        rw [hS]
        clear hS hc he HR2 H1
        go_wp2_with (first | (go_at_call 26; refine (ibc _ _ (-1) HI.out _).mono ?_; rintro e w2 ⟨rfl, rfl⟩))
        go_wp2_with (first | (go_at_call 27; refine (wse HS.out S HPB.out).mono ?_; rintro e w3 ⟨rfl, hs3, _⟩; have E3 := Aside0.mk hs3; clear hs3))
        go_wp2_with (first | (go_at_call 32; refine (stre E3.out).mono ?_; rintro e wz ⟨rfl, hsz, hfz⟩; have EZ := Aside0.mk (And.intro hsz hfz); clear hsz hfz))
        refine bodyPost_ret (results_tmp rfl _ _ _) rfl ?_
        rw [HR3.out]
        exact ⟨rfl, EZ.out⟩
    | some pq =>
      obtain ⟨p, q⟩ := pq
      obtain ⟨hr, hp⟩ := cut_eq hc
      obtain ⟨i, hi⟩ : ∃ i, p.length = i := ⟨_, rfl⟩
      have hlen : s.length = i + (q.length + 1) := by rw [hr, List.length_append, List.length_cons, hi]
      have hq : (92 :: q : List UInt8).length < 1000000000 := by rw [List.length_cons]; have := HQ.out; omega
      obtain ⟨S2, hS2⟩ : ∃ S, mkB (92 :: q) = S := ⟨_, rfl⟩
      obtain ⟨P, hP⟩ : ∃ P, mkB p = P := ⟨_, rfl⟩
      obtain ⟨l3, hl3⟩ : ∃ l, out ++ p = l := ⟨_, rfl⟩
      have HI := Aside0.mk (show Lib.indexByte S.data.toList (92 : Int).toNat.toUInt8 = (i : Int) by rw [← hS, data_mkB, hr, ← hi]; exact ix_at 92 p q hp)
      have HZ := Aside0.mk (show i + S2.size = S.size by rw [← hS, ← hS2, size_mkB, size_mkB, hlen, List.length_cons])
      have HS3 := Aside0.mk (show S2.size = q.length + 1 by rw [← hS2, size_mkB, List.length_cons])
      have HS2 := Aside0.mk hS2
      have HL3 := Aside0.mk (show out ++ P.data.toList = l3 by rw [← hP, data_mkB]; exact hl3)
      have HLL := Aside0.mk (show l3.length = out.length + i by rw [← hl3, List.length_append, hi])
      have HPB := Aside0.mk (show out.length + P.size ≤ 1000000 by rw [← hP, size_mkB]; have := HQ.out; omega)
      have HX := Aside0.mk (show l3.length + (q.length + 1) ≤ 8000 by have := HQ.out; have := HLL.out; omega)
      have HND := Aside0.mk (show s.length = i + (q.length + 1) from hlen)
      have he2 : S.toList.isEmpty = false := by rw [← hS, toList_mkB, hr]; cases p <;> rfl
      have g1 : S.extract 0 i = P := by rw [← hS, ← hP, extract_mkB, List.drop_zero, hr, ← hi, List.take_left]
      have g2 : S.extract i S.size = S2 := by rw [← hS, ← hS2, extract_mkB, size_mkB, List.take_length, hr, ← hi, List.drop_left]
      have t1 : decide ((i : Int) < 0) = false := decide_eq_false (by omega)
      have t2 : ((i : Int) < 0) = False := eq_false (by omega)
      have t3 : ((i : Int) ≤ (S.size : Int)) = True := eq_true (by have := HZ.out; omega)
      have t4 : (i ≤ S.size) = True := eq_true (by have := HZ.out; omega)
      cases hes : esc (92 :: q) with
      | some x =>
        have hx := esc_ok hes
        rw [List.length_cons] at hx
        have hst := esc_step hes
        have HASK := Aside0.mk (fun W => asks_yes (92 :: q) hq x hes W)
        rw [hS2] at HASK
        obtain ⟨kd, hkd⟩ : ∃ kd : Int, (x.kind.toNat : Int) = kd := ⟨_, rfl⟩
        obtain ⟨N, hN⟩ : ∃ N, x.size = N := ⟨_, rfl⟩
        obtain ⟨M, hM⟩ : ∃ M, mkB x.name = M := ⟨_, rfl⟩
        obtain ⟨ST, hST⟩ : ∃ ST, x.step = ST := ⟨_, rfl⟩
        rw [hkd, hN, hM, hST] at HASK
        by_cases hA : 500 ≤ A.length
        · have HAL := Aside0.mk (show A.length = 500 by have := HQ.out; omega)
          have HR2 := Aside0.mk (show R = .lim A by rw [← H1.out.1, ex_full hc hes hA])
          rw [hS]
          clear hS2 hc hr hp hlen hq hS hes hx hst hkd hN hM hST hA hP hl3 hi H1
          go_wp2_with (first | (go_at_call 26; refine (ibc _ _ i HI.out _).mono ?_; rintro e w2 ⟨rfl, rfl⟩))
          go_wp2_with (first | (go_at_call 27; refine (wse HS.out P HPB.out).mono ?_; rintro e w3 ⟨rfl, hs3, _⟩; rw [HL3.out] at hs3; have E3 := Aside0.mk hs3; clear hs3))
          go_wp2_with (first | (go_at_call 28; refine (HASK.out _).mono ?_; rintro e w4 ⟨rfl, hb4⟩; have E4a := E3.out.below hb4; have X4 := Aside0.mk E4a.newer; have Y4 := Aside0.mk E4a.new_ne; have E4 := Aside0.mk (E4a.below (below_alloc (Below.refl _ _) (.cells #[.int .u8 kd, .string M, .int .i64 ST, .int .i64 (N : Int)] 58))); have G4 := Aside0.mk (blk_new w4 (.cells #[.int .u8 kd, .string M, .int .i64 ST, .int .i64 (N : Int)] 58)); clear hb4 E4a))
          go_wp2_with (first | (go_at_call 29; refine (ask_full w0 B b tb cp L Aa ca A kd M ST _ E4.out.sr HAL.out).mono ?_; rintro e w6 ⟨rfl, rfl⟩))
          refine ⟨rfl, ?_⟩
          rw [HR2.out]
          exact ⟨rfl, E4.out.sr, E4.out.fr⟩
        · obtain ⟨ANS, hAns⟩ : ∃ Z, ansB L (askE x) = Z := ⟨_, rfl⟩
          obtain ⟨Z, hZ⟩ : ∃ Z, mkB ((92 :: q).drop N) = Z := ⟨_, rfl⟩
          have HAK := Aside0.mk (show ∀ W, Sr w0 B b tb cp L Aa ca A W → Calls Try.prog 29 #[.pointer (some ⟨b, 0, none⟩), .int .u8 kd, .string M, .int .i64 ST] W fun e w' => e = .returned (.string ANS) ∧ Sr w0 B b tb cp L Aa ca (A ++ [askE x]) w' ∧ Fr B (Xb b tb) W w' by
            intro W h
            rw [← hkd, ← hM, ← hST, ← hAns]
            exact ask_some w0 B b tb cp L HL.out Aa ca A (askE x) W h (by omega) (by show x.name.length ≤ 8000; have := HX.out; omega) hst)
          have HAN := Aside0.mk (show ANS.data.toList = anL L (askE x) by rw [← hAns]; rfl)
          have HAB := Aside0.mk (show ANS.size ≤ 100000 by have h := HLS.out (askE x); rw [anL, hAns, Array.length_toList] at h; exact h)
          have g3 : S2.extract N S2.size = Z := by rw [← hS2, extract_mkB, size_mkB, List.take_length, hZ]
          have t5 : (0 ≤ (N : Int)) = True := eq_true (by omega)
          have t6 : ((N : Int) ≤ (S2.size : Int)) = True := eq_true (by have := HS3.out; omega)
          have t7 : (N ≤ S2.size) = True := eq_true (by have := HS3.out; omega)
          have HZ2 := Aside0.mk (show Z.size + N = q.length + 1 by rw [← hZ, size_mkB, List.length_drop, List.length_cons]; omega)
          have HN3 := Aside0.mk (show 3 ≤ N by omega)
          have HRX := Aside0.mk (show R = room (ex cp (anL L) k1) (aOut x (anL L (askE x)) l3) (aRest x (anL L (askE x)) (92 :: q)) (A ++ [askE x]) by rw [← H1.out.1, ex_esc hc hes (by omega), hl3])
          have HA1 := Aside0.mk (show (A ++ [askE x]).length = A.length + 1 ∧ A.length < 500 by rw [List.length_append, List.length_cons, List.length_nil]; omega)
          have HNEED := Aside0.mk (fun (s1 : List UInt8) (h8 : s1.length ≤ 8000) => (by have h1 := need_less (A := A) (A1 := A ++ [askE x]) (s := s) (s1 := s1) (by omega) (by rw [List.length_append, List.length_cons, List.length_nil]; omega) h8; have := HQ.out; omega : need (A ++ [askE x]) s1 < k1))
          by_cases hk : x.kind = 110
          · obtain rfl : (110 : Int) = kd := by rw [← hkd, hk]; rfl
            obtain ⟨l7, hl7⟩ : ∃ l, l3 ++ ANS.data.toList = l := ⟨_, rfl⟩
            have HL7 := Aside0.mk hl7
            obtain ⟨n7, hn7⟩ : ∃ m, l7.length = m := ⟨_, rfl⟩
            have HN7 := Aside0.mk hn7
            have HB7 := Aside0.mk (show l3.length + ANS.size ≤ 1000000 ∧ n7 = l3.length + ANS.size ∧ n7 ≤ 200000 by
              have h1 : l7.length = l3.length + ANS.size := by rw [← hl7, List.length_append, Array.length_toList]; rfl
              have := HAB.out
              have := HX.out
              omega)
            have c19 : ((9223372036854775807 : Nat) < Z.size) = False := eq_false (by have := HZ2.out; have := HX.out; omega)
            have g5 : (⟨#[]⟩ : ByteArray) ++ Z = Z := by rw [← hZ, empty_mkB, append_mkB]; rfl
            have HR2 := Aside0.mk (show R = room (ex cp (anL L) k1) l7 ((92 :: q).drop N) (A ++ [askE x]) by rw [HRX.out, aOut, aRest, if_pos hk, if_pos hk, ← HAN.out, hl7, hN])
            have TW := Aside0.mk (show wrap64 ((n7 : Int) + (Z.size : Int)) = (n7 : Int) + (Z.size : Int) by
              have h1 := HB7.out
              have h2 := HZ2.out
              have h3 := HX.out
              exact w64 (by omega) (by omega))
            by_cases hbig : (8000 : Int) < (n7 : Int) + (Z.size : Int)
            · have d1 : decide ((8000 : Int) < wrap64 ((n7 : Int) + (Z.size : Int))) = true := by rw [TW.out]; exact decide_eq_true hbig
              have d2 : ((8000 : Int) < wrap64 ((n7 : Int) + (Z.size : Int))) = True := by rw [TW.out]; exact eq_true hbig
              have HR3 := Aside0.mk (show R = .lim (A ++ [askE x]) by rw [HR2.out, room_big]; rw [← size_mkB ((92 :: q).drop N), hZ, hn7]; omega)
              rw [hS]
              clear hS2 hc hr hp hlen hq hS hes hx hst hkd hN hM hST hA hP hl3 hi H1 hk hl7 hn7 hbig hZ hAns HRX HR2
              go_wp2_with (first | (go_at_call 26; refine (ibc _ _ i HI.out _).mono ?_; rintro e w2 ⟨rfl, rfl⟩))
              go_wp2_with (first | (go_at_call 27; refine (wse HS.out P HPB.out).mono ?_; rintro e w3 ⟨rfl, hs3, _⟩; rw [HL3.out] at hs3; have E3 := Aside0.mk hs3; clear hs3))
              go_wp2_with (first | (go_at_call 28; refine (HASK.out _).mono ?_; rintro e w4 ⟨rfl, hb4⟩; have E4a := E3.out.below hb4; have X4 := Aside0.mk E4a.newer; have Y4 := Aside0.mk E4a.new_ne; have E4 := Aside0.mk (E4a.below (below_alloc (Below.refl _ _) (.cells #[.int .u8 110, .string M, .int .i64 ST, .int .i64 (N : Int)] 58))); have G4 := Aside0.mk (blk_new w4 (.cells #[.int .u8 110, .string M, .int .i64 ST, .int .i64 (N : Int)] 58)); clear hb4 E4a))
              go_wp2_with (first | (go_at_call 29; refine (HAK.out _ E4.out.sr).mono ?_; rintro e w6 ⟨rfl, hs6, hf6⟩; have hg6 := hf6.at G4.out X4.out (by decide); have G6 := Aside0.mk hg6; have E6 := Aside0.mk (E4.out.asked hs6 hf6); have g60 : w6.cell? ⟨w4.heap.size, 0, none⟩ = some (.int .u8 110) := (blk_cell hg6 0).trans rfl; have g63 : w6.cell? ⟨w4.heap.size, 3, none⟩ = some (.int .i64 (N : Int)) := (blk_cell hg6 3).trans rfl; clear hs6 hf6 hg6))
              go_wp2_with (first | (go_at_call 27; refine (wse E6.out ANS HB7.out.1).mono ?_; rintro e w7 ⟨rfl, hs7, ho7⟩; rw [HL7.out] at hs7; have hg7 := ho7 _ _ G6.out Y4.out (fun c fz e => by injection e with _ e _; exact absurd e (by decide)); have g73 : w7.cell? ⟨w4.heap.size, 3, none⟩ = some (.int .i64 (N : Int)) := (blk_cell hg7 3).trans rfl; have E7 := Aside0.mk hs7; clear hs7 ho7 hg7))
              go_wp2_with (first | (go_at_call 30; refine (lene E7.out).mono ?_; rw [HN7.out]; rintro e w8 ⟨rfl, rfl⟩))
              refine ⟨rfl, ?_⟩
              rw [HR3.out]
              exact ⟨rfl, E7.out.sr, E7.out.fr⟩
            · have d1 : decide ((8000 : Int) < wrap64 ((n7 : Int) + (Z.size : Int))) = false := by rw [TW.out]; exact decide_eq_false hbig
              have d2 : ((8000 : Int) < wrap64 ((n7 : Int) + (Z.size : Int))) = False := by rw [TW.out]; exact eq_false hbig
              have HTOT := Aside0.mk (show n7 + ((92 :: q).drop N).length ≤ 8000 by rw [← size_mkB ((92 :: q).drop N), hZ]; omega)
              have HR3 := Aside0.mk (show ex cp (anL L) k1 l7 ((92 :: q).drop N) (A ++ [askE x]) = R by rw [HR2.out, room_ok]; have := HTOT.out; omega)
              have HZV := Aside0.mk hZ
              rw [hS]
              clear hS2 hc hr hp hlen hq hS hes hx hst hkd hN hM hST hA hP hl3 hi H1 hk hl7 hn7 hbig hZ hAns HRX HR2
              go_wp2_with (first | (go_at_call 26; refine (ibc _ _ i HI.out _).mono ?_; rintro e w2 ⟨rfl, rfl⟩))
              go_wp2_with (first | (go_at_call 27; refine (wse HS.out P HPB.out).mono ?_; rintro e w3 ⟨rfl, hs3, _⟩; rw [HL3.out] at hs3; have E3 := Aside0.mk hs3; clear hs3))
              go_wp2_with (first | (go_at_call 28; refine (HASK.out _).mono ?_; rintro e w4 ⟨rfl, hb4⟩; have E4a := E3.out.below hb4; have X4 := Aside0.mk E4a.newer; have Y4 := Aside0.mk E4a.new_ne; have E4 := Aside0.mk (E4a.below (below_alloc (Below.refl _ _) (.cells #[.int .u8 110, .string M, .int .i64 ST, .int .i64 (N : Int)] 58))); have G4 := Aside0.mk (blk_new w4 (.cells #[.int .u8 110, .string M, .int .i64 ST, .int .i64 (N : Int)] 58)); clear hb4 E4a))
              go_wp2_with (first | (go_at_call 29; refine (HAK.out _ E4.out.sr).mono ?_; rintro e w6 ⟨rfl, hs6, hf6⟩; have hg6 := hf6.at G4.out X4.out (by decide); have G6 := Aside0.mk hg6; have E6 := Aside0.mk (E4.out.asked hs6 hf6); have g60 : w6.cell? ⟨w4.heap.size, 0, none⟩ = some (.int .u8 110) := (blk_cell hg6 0).trans rfl; have g63 : w6.cell? ⟨w4.heap.size, 3, none⟩ = some (.int .i64 (N : Int)) := (blk_cell hg6 3).trans rfl; clear hs6 hf6 hg6))
              go_wp2_with (first | (go_at_call 27; refine (wse E6.out ANS HB7.out.1).mono ?_; rintro e w7 ⟨rfl, hs7, ho7⟩; rw [HL7.out] at hs7; have hg7 := ho7 _ _ G6.out Y4.out (fun c fz e => by injection e with _ e _; exact absurd e (by decide)); have g73 : w7.cell? ⟨w4.heap.size, 3, none⟩ = some (.int .i64 (N : Int)) := (blk_cell hg7 3).trans rfl; have E7 := Aside0.mk hs7; clear hs7 ho7 hg7))
              go_wp2_with (first | (go_at_call 30; refine (lene E7.out).mono ?_; rw [HN7.out]; rintro e w8 ⟨rfl, rfl⟩))
              go_roundg k1
              case measure => exact Nat.lt_succ_self _
              case rel => exact ⟨l7, (92 :: q).drop N, A ++ [askE x], ⟨HR3.out, HNEED.out _ (by have := HTOT.out; omega), by rw [HN7.out]; exact HTOT.out, by have := HQ.out; omega, by have := HA1.out; omega⟩, by rw [HZV.out], E7⟩
          · have f0 : ((kd == 110) : Bool) = false := beq_eq_false_iff_ne.2 (by intro e; rw [← hkd] at e; exact hk (UInt8.toNat_inj.1 (by show x.kind.toNat = 110; omega)))
            obtain ⟨Z2, hZ3⟩ : ∃ Z2, ANS ++ Z = Z2 := ⟨_, rfl⟩
            obtain ⟨n7, hn7⟩ : ∃ m, l3.length = m := ⟨_, rfl⟩
            have HN7 := Aside0.mk hn7
            have HZS := Aside0.mk (show Z2.size = ANS.size + Z.size by rw [← hZ3, ByteArray.size_append])
            have HZV := Aside0.mk (show Z2 = mkB (anL L (askE x) ++ (92 :: q).drop N) by rw [← append_mkB, hZ, ← HAN.out, ← hZ3]; congr 1)
            have c18 : ((9223372036854775807 : Nat) < ANS.size + Z.size) = False := eq_false (by have := HAB.out; have := HZ2.out; have := HX.out; omega)
            have HR2 := Aside0.mk (show R = room (ex cp (anL L) k1) l3 (anL L (askE x) ++ (92 :: q).drop N) (A ++ [askE x]) by rw [HRX.out, aOut, aRest, if_neg hk, if_neg hk, hN])
            have TW := Aside0.mk (show wrap64 ((n7 : Int) + (Z2.size : Int)) = (n7 : Int) + (Z2.size : Int) by
              have h1 := HAB.out
              have h2 := HZ2.out
              have h3 := HX.out
              have h4 := HZS.out
              exact w64 (by omega) (by omega))
            have HZL := Aside0.mk (show (anL L (askE x) ++ (92 :: q).drop N).length = Z2.size by rw [HZV.out, size_mkB])
            by_cases hbig : (8000 : Int) < (n7 : Int) + (Z2.size : Int)
            · have d1 : decide ((8000 : Int) < wrap64 ((n7 : Int) + (Z2.size : Int))) = true := by rw [TW.out]; exact decide_eq_true hbig
              have d2 : ((8000 : Int) < wrap64 ((n7 : Int) + (Z2.size : Int))) = True := by rw [TW.out]; exact eq_true hbig
              have HR3 := Aside0.mk (show R = .lim (A ++ [askE x]) by rw [HR2.out, room_big]; rw [HZL.out, hn7]; omega)
              rw [hS]
              clear hS2 hc hr hp hlen hq hS hes hx hst hkd hN hM hST hA hP hl3 hi H1 hk hn7 hbig hZ hAns HRX HR2
              go_wp2_with (first | (go_at_call 26; refine (ibc _ _ i HI.out _).mono ?_; rintro e w2 ⟨rfl, rfl⟩))
              go_wp2_with (first | (go_at_call 27; refine (wse HS.out P HPB.out).mono ?_; rintro e w3 ⟨rfl, hs3, _⟩; rw [HL3.out] at hs3; have E3 := Aside0.mk hs3; clear hs3))
              go_wp2_with (first | (go_at_call 28; refine (HASK.out _).mono ?_; rintro e w4 ⟨rfl, hb4⟩; have E4a := E3.out.below hb4; have X4 := Aside0.mk E4a.newer; have Y4 := Aside0.mk E4a.new_ne; have E4 := Aside0.mk (E4a.below (below_alloc (Below.refl _ _) (.cells #[.int .u8 kd, .string M, .int .i64 ST, .int .i64 (N : Int)] 58))); have G4 := Aside0.mk (blk_new w4 (.cells #[.int .u8 kd, .string M, .int .i64 ST, .int .i64 (N : Int)] 58)); clear hb4 E4a))
              go_wp2_with (first | (go_at_call 29; refine (HAK.out _ E4.out.sr).mono ?_; rintro e w6 ⟨rfl, hs6, hf6⟩; have hg6 := hf6.at G4.out X4.out (by decide); have G6 := Aside0.mk hg6; have E6 := Aside0.mk (E4.out.asked hs6 hf6); have g60 : w6.cell? ⟨w4.heap.size, 0, none⟩ = some (.int .u8 kd) := (blk_cell hg6 0).trans rfl; have g63 : w6.cell? ⟨w4.heap.size, 3, none⟩ = some (.int .i64 (N : Int)) := (blk_cell hg6 3).trans rfl; clear hs6 hf6 hg6))
              go_wp2_with (first | (go_at_call 30; refine (lene E6.out).mono ?_; rw [HN7.out]; rintro e w8 ⟨rfl, rfl⟩))
              refine ⟨rfl, ?_⟩
              rw [HR3.out]
              exact ⟨rfl, E6.out.sr, E6.out.fr⟩
            · have d1 : decide ((8000 : Int) < wrap64 ((n7 : Int) + (Z2.size : Int))) = false := by rw [TW.out]; exact decide_eq_false hbig
              have d2 : ((8000 : Int) < wrap64 ((n7 : Int) + (Z2.size : Int))) = False := by rw [TW.out]; exact eq_false hbig
              have HTOT := Aside0.mk (show n7 + (anL L (askE x) ++ (92 :: q).drop N).length ≤ 8000 by rw [HZL.out]; omega)
              have HR3 := Aside0.mk (show ex cp (anL L) k1 l3 (anL L (askE x) ++ (92 :: q).drop N) (A ++ [askE x]) = R by rw [HR2.out, room_ok]; rw [hn7]; have := HTOT.out; omega)
              rw [hS]
              clear hS2 hc hr hp hlen hq hS hes hx hst hkd hN hM hST hA hP hl3 hi H1 hk hn7 hbig hZ hAns HRX HR2
              go_wp2_with (first | (go_at_call 26; refine (ibc _ _ i HI.out _).mono ?_; rintro e w2 ⟨rfl, rfl⟩))
              go_wp2_with (first | (go_at_call 27; refine (wse HS.out P HPB.out).mono ?_; rintro e w3 ⟨rfl, hs3, _⟩; rw [HL3.out] at hs3; have E3 := Aside0.mk hs3; clear hs3))
              go_wp2_with (first | (go_at_call 28; refine (HASK.out _).mono ?_; rintro e w4 ⟨rfl, hb4⟩; have E4a := E3.out.below hb4; have X4 := Aside0.mk E4a.newer; have Y4 := Aside0.mk E4a.new_ne; have E4 := Aside0.mk (E4a.below (below_alloc (Below.refl _ _) (.cells #[.int .u8 kd, .string M, .int .i64 ST, .int .i64 (N : Int)] 58))); have G4 := Aside0.mk (blk_new w4 (.cells #[.int .u8 kd, .string M, .int .i64 ST, .int .i64 (N : Int)] 58)); clear hb4 E4a))
              go_wp2_with (first | (go_at_call 29; refine (HAK.out _ E4.out.sr).mono ?_; rintro e w6 ⟨rfl, hs6, hf6⟩; have hg6 := hf6.at G4.out X4.out (by decide); have G6 := Aside0.mk hg6; have E6 := Aside0.mk (E4.out.asked hs6 hf6); have g60 : w6.cell? ⟨w4.heap.size, 0, none⟩ = some (.int .u8 kd) := (blk_cell hg6 0).trans rfl; have g63 : w6.cell? ⟨w4.heap.size, 3, none⟩ = some (.int .i64 (N : Int)) := (blk_cell hg6 3).trans rfl; clear hs6 hf6 hg6))
              go_wp2_with (first | (go_at_call 30; refine (lene E6.out).mono ?_; rw [HN7.out]; rintro e w8 ⟨rfl, rfl⟩))
              go_roundg k1
              case measure => exact Nat.lt_succ_self _
              case rel => exact ⟨l3, anL L (askE x) ++ (92 :: q).drop N, A ++ [askE x], ⟨HR3.out, HNEED.out _ (by have := HTOT.out; omega), by rw [HN7.out]; exact HTOT.out, by have := HQ.out; omega, by have := HA1.out; omega⟩, by rw [HZV.out], E6⟩
      | none =>
        have HASK := Aside0.mk (fun W => asks_no (92 :: q) hq hes W)
        have HWID := Aside0.mk (width_f (92 :: q) hq 1)
        rw [hS2] at HASK HWID
        cases hz : widC cp (92 :: q) with
        | some z =>
          obtain ⟨rfl, hwd⟩ := widC_ok hz
          have hwz := wid_ok hwd
          rw [List.length_cons] at hwz
          obtain ⟨N, hN⟩ : ∃ N, z.2 = N := ⟨_, rfl⟩
          obtain ⟨T, hT⟩ : ∃ T, mkB z.1 = T := ⟨_, rfl⟩
          have HV := Aside0.mk (show expand_width.f 2 S2 = some (T, (N : Int)) by rw [HWID.out, hwd, ← hT, ← hN]; rfl)
          have g3a : S2.extract N S2.size = mkB ((92 :: q).drop N) := by rw [← hS2, extract_mkB, size_mkB, List.take_length]
          have t5 : (0 ≤ (N : Int)) = True := eq_true (by omega)
          have t6 : ((N : Int) ≤ (S2.size : Int)) = True := eq_true (by have := HS3.out; omega)
          have t7 : (N ≤ S2.size) = True := eq_true (by have := HS3.out; omega)
          have y1 : decide ((0 : Int) < (N : Int)) = true := decide_eq_true (by omega)
          have y2 : ((0 : Int) < (N : Int)) = True := eq_true (by omega)
          have y3 : (0 < N) = True := eq_true (by omega)
          have HZL := Aside0.mk (show z.1.length + 4 = N ∧ N ≤ q.length + 1 by omega)
          have HIN0 := Aside0.mk (show ∀ W, Sr w0 B b tb false L Aa ca A W → Calls Try.prog 20 #[.pointer (some ⟨b, 0, none⟩), .string T] W (Done w0 W B b tb false L Aa ca (ex false (anL L) k1 [] z.1 A)) by
            intro W h
            rw [← hT]
            exact IH.out k1 (by have := HQ.out; omega) z.1 A (by have h1 := need_short (A := A) (s := s) (s1 := z.1) (by have := HND.out; have := HZL.out; omega); have := HQ.out; omega) (by have := HX.out; have := HZL.out; omega) (by have := HQ.out; omega) W h)
          have hgr := ex_grows (cp := false) (an := anL L) k1 [] z.1 A
          have hmo := ex_most (cp := false) (an := anL L) k1 [] z.1 A (by have := HQ.out; omega)
          cases hin : ex false (anL L) k1 [] z.1 A with
          | lim A1 =>
            rw [hin] at HIN0
            have HIN := Aside0.mk (show ∀ W, Sr w0 B b tb false L Aa ca A W → Calls Try.prog 20 #[.pointer (some ⟨b, 0, none⟩), .string T] W (fun e w' => e = .panicked lim4 ∧ Sr w0 B b tb false L Aa ca A1 w' ∧ Fr B (Xb b tb) W w') from HIN0.out)
            have HR2 := Aside0.mk (show R = .lim A1 by rw [← H1.out.1, ex_wlim hc hes hz hin])
            rw [hS]
            clear hS2 hc hr hp hlen hq hS hes hP hl3 hi H1 HWID hz hwd hwz hN hT HIN0 hgr hmo hin g3a
            go_wp2_with (first | (go_at_call 26; refine (ibc _ _ i HI.out _).mono ?_; rintro e w2 ⟨rfl, rfl⟩))
            go_wp2_with (first | (go_at_call 27; refine (wse HS.out P HPB.out).mono ?_; rintro e w3 ⟨rfl, hs3, _⟩; rw [HL3.out] at hs3; have E3 := Aside0.mk hs3; clear hs3))
            go_wp2_with (first | (go_at_call 28; refine (HASK.out _).mono ?_; rintro e w4 ⟨v0, v1, v2, v3, rfl, hb4⟩; have E4 := Aside0.mk ((E3.out.below hb4).below (below_alloc (Below.refl _ _) (.cells #[.int .u8 v0, .string v1, .int .i64 v2, .int .i64 v3] 58))); clear hb4))
            go_wp2_with (first | (go_at_call 31; refine (expand_width.calls 2 _ _ _ _ HV.out).mono ?_; rintro e w5 ⟨rfl, hd5⟩; have E5 := Aside0.mk (E4.out.below hd5.below); have c1 : w5.cell? ⟨b, 1, none⟩ = some (.bool false) := (blk_cell E5.out.sr.rd 1).trans rfl; clear hd5))
            go_wp2_with (first | (go_at_call 20; refine (HIN.out _ E5.out.sr).mono ?_; rintro e w6 ⟨rfl, hs6, hf6⟩; have E6 := Aside0.mk (E5.out.asked hs6 hf6); clear hs6 hf6))
            refine ⟨rfl, ?_⟩
            rw [HR2.out]
            exact ⟨rfl, E6.out.sr, E6.out.fr⟩
          | ok ib A1 =>
            rw [hin] at HIN0 hgr hmo
            have hsm := ex_small k1 [] z.1 A (by have := HX.out; have := HZL.out; simp only [List.length_nil]; omega) ib A1 hin
            have hgr : A.length ≤ A1.length := hgr
            have hmo : A1.length ≤ 500 := hmo
            obtain ⟨I, hI⟩ : ∃ I, mkB ib = I := ⟨_, rfl⟩
            have HIN := Aside0.mk (show ∀ W, Sr w0 B b tb false L Aa ca A W → Calls Try.prog 20 #[.pointer (some ⟨b, 0, none⟩), .string T] W (fun e w' => e = .returned (.string I) ∧ Sr w0 B b tb false L Aa ca A1 w' ∧ Fr B (Xb b tb) W w') by rw [← hI]; exact HIN0.out)
            by_cases hA : 500 ≤ A1.length
            · have HAL := Aside0.mk (show A1.length = 500 by omega)
              have HR2 := Aside0.mk (show R = .lim A1 by rw [← H1.out.1, ex_wfull hc hes hz hin hA])
              rw [hS]
              clear hS2 hc hr hp hlen hq hS hes hP hl3 hi H1 HWID hz hwd hwz hN hT HIN0 hgr hmo hin g3a hsm hI hA
              go_wp2_with (first | (go_at_call 26; refine (ibc _ _ i HI.out _).mono ?_; rintro e w2 ⟨rfl, rfl⟩))
              go_wp2_with (first | (go_at_call 27; refine (wse HS.out P HPB.out).mono ?_; rintro e w3 ⟨rfl, hs3, _⟩; rw [HL3.out] at hs3; have E3 := Aside0.mk hs3; clear hs3))
              go_wp2_with (first | (go_at_call 28; refine (HASK.out _).mono ?_; rintro e w4 ⟨v0, v1, v2, v3, rfl, hb4⟩; have E4 := Aside0.mk ((E3.out.below hb4).below (below_alloc (Below.refl _ _) (.cells #[.int .u8 v0, .string v1, .int .i64 v2, .int .i64 v3] 58))); clear hb4))
              go_wp2_with (first | (go_at_call 31; refine (expand_width.calls 2 _ _ _ _ HV.out).mono ?_; rintro e w5 ⟨rfl, hd5⟩; have E5 := Aside0.mk (E4.out.below hd5.below); have c1 : w5.cell? ⟨b, 1, none⟩ = some (.bool false) := (blk_cell E5.out.sr.rd 1).trans rfl; clear hd5))
              go_wp2_with (first | (go_at_call 20; refine (HIN.out _ E5.out.sr).mono ?_; rintro e w6 ⟨rfl, hs6, hf6⟩; have E6 := Aside0.mk (E5.out.asked hs6 hf6); clear hs6 hf6))
              go_wp2_with (first | (go_at_call 29; refine (ask_full w0 B b tb false L Aa ca A1 119 I 0 _ E6.out.sr HAL.out).mono ?_; rintro e w7 ⟨rfl, rfl⟩))
              refine ⟨rfl, ?_⟩
              rw [HR2.out]
              exact ⟨rfl, E6.out.sr, E6.out.fr⟩
            · obtain ⟨ANS, hAns⟩ : ∃ Z, ansB L ⟨119, ib, 0⟩ = Z := ⟨_, rfl⟩
              obtain ⟨Z, hZ⟩ : ∃ Z, mkB ((92 :: q).drop N) = Z := ⟨_, rfl⟩
              have HAK := Aside0.mk (show ∀ W, Sr w0 B b tb false L Aa ca A1 W → Calls Try.prog 29 #[.pointer (some ⟨b, 0, none⟩), .int .u8 119, .string I, .int .i64 0] W fun e w' => e = .returned (.string ANS) ∧ Sr w0 B b tb false L Aa ca (A1 ++ [⟨119, ib, 0⟩]) w' ∧ Fr B (Xb b tb) W w' by
                intro W h
                rw [← hI, ← hAns]
                exact ask_some w0 B b tb false L HL.out Aa ca A1 ⟨119, ib, 0⟩ W h (by omega) hsm (show (-10 : Int) ≤ 0 ∧ (0 : Int) ≤ 10 by decide))
              have HAN := Aside0.mk (show ANS.data.toList = anL L ⟨119, ib, 0⟩ by rw [← hAns]; rfl)
              have HAB := Aside0.mk (show ANS.size ≤ 100000 by have h := HLS.out ⟨119, ib, 0⟩; rw [anL, hAns, Array.length_toList] at h; exact h)
              have g3 : S2.extract N S2.size = Z := by rw [g3a, hZ]
              have HZ2 := Aside0.mk (show Z.size + N = q.length + 1 by rw [← hZ, size_mkB, List.length_drop, List.length_cons]; have := HZL.out; omega)
              have HA1 := Aside0.mk (show (A1 ++ [(⟨119, ib, 0⟩ : As)]).length = A1.length + 1 ∧ A1.length < 500 by rw [List.length_append, List.length_cons, List.length_nil]; omega)
              have HNEED := Aside0.mk (fun (s1 : List UInt8) (h8 : s1.length ≤ 8000) => (by have h1 := need_less (A := A) (A1 := A1 ++ [(⟨119, ib, 0⟩ : As)]) (s := s) (s1 := s1) (by omega) (by rw [List.length_append, List.length_cons, List.length_nil]; omega) h8; have := HQ.out; omega : need (A1 ++ [(⟨119, ib, 0⟩ : As)]) s1 < k1))
              obtain ⟨l7, hl7⟩ : ∃ l, l3 ++ ANS.data.toList = l := ⟨_, rfl⟩
              have HL7 := Aside0.mk hl7
              obtain ⟨n7, hn7⟩ : ∃ m, l7.length = m := ⟨_, rfl⟩
              have HN7 := Aside0.mk hn7
              have HB7 := Aside0.mk (show l3.length + ANS.size ≤ 1000000 ∧ n7 = l3.length + ANS.size ∧ n7 ≤ 200000 by
                have h1 : l7.length = l3.length + ANS.size := by rw [← hl7, List.length_append, Array.length_toList]; rfl
                have := HAB.out
                have := HX.out
                omega)
              have HR2 := Aside0.mk (show R = room (ex false (anL L) k1) l7 ((92 :: q).drop N) (A1 ++ [⟨119, ib, 0⟩]) by rw [← H1.out.1, ex_wid hc hes hz hin (by omega), hl3, ← HAN.out, hl7, hN])
              have TW := Aside0.mk (show wrap64 ((n7 : Int) + (Z.size : Int)) = (n7 : Int) + (Z.size : Int) by
                have h1 := HB7.out
                have h2 := HZ2.out
                have h3 := HX.out
                exact w64 (by omega) (by omega))
              by_cases hbig : (8000 : Int) < (n7 : Int) + (Z.size : Int)
              · have d1 : decide ((8000 : Int) < wrap64 ((n7 : Int) + (Z.size : Int))) = true := by rw [TW.out]; exact decide_eq_true hbig
                have d2 : ((8000 : Int) < wrap64 ((n7 : Int) + (Z.size : Int))) = True := by rw [TW.out]; exact eq_true hbig
                have HR3 := Aside0.mk (show R = .lim (A1 ++ [⟨119, ib, 0⟩]) by rw [HR2.out, room_big]; rw [← size_mkB ((92 :: q).drop N), hZ, hn7]; omega)
                rw [hS]
                clear hS2 hc hr hp hlen hq hS hes hP hl3 hi H1 HWID hz hwd hwz hN hT HIN0 hgr hmo hin g3a hsm hI hA hl7 hn7 hbig hZ hAns HR2
                go_wp2_with (first | (go_at_call 26; refine (ibc _ _ i HI.out _).mono ?_; rintro e w2 ⟨rfl, rfl⟩))
                go_wp2_with (first | (go_at_call 27; refine (wse HS.out P HPB.out).mono ?_; rintro e w3 ⟨rfl, hs3, _⟩; rw [HL3.out] at hs3; have E3 := Aside0.mk hs3; clear hs3))
                go_wp2_with (first | (go_at_call 28; refine (HASK.out _).mono ?_; rintro e w4 ⟨v0, v1, v2, v3, rfl, hb4⟩; have E4 := Aside0.mk ((E3.out.below hb4).below (below_alloc (Below.refl _ _) (.cells #[.int .u8 v0, .string v1, .int .i64 v2, .int .i64 v3] 58))); clear hb4))
                go_wp2_with (first | (go_at_call 31; refine (expand_width.calls 2 _ _ _ _ HV.out).mono ?_; rintro e w5 ⟨rfl, hd5⟩; have E5 := Aside0.mk (E4.out.below hd5.below); have c1 : w5.cell? ⟨b, 1, none⟩ = some (.bool false) := (blk_cell E5.out.sr.rd 1).trans rfl; clear hd5))
                go_wp2_with (first | (go_at_call 20; refine (HIN.out _ E5.out.sr).mono ?_; rintro e w6 ⟨rfl, hs6, hf6⟩; have E6 := Aside0.mk (E5.out.asked hs6 hf6); clear hs6 hf6))
                go_wp2_with (first | (go_at_call 29; refine (HAK.out _ E6.out.sr).mono ?_; rintro e w7 ⟨rfl, hs7, hf7⟩; have E7 := Aside0.mk (E6.out.asked hs7 hf7); clear hs7 hf7))
                go_wp2_with (first | (go_at_call 27; refine (wse E7.out ANS HB7.out.1).mono ?_; rintro e w8 ⟨rfl, hs8, _⟩; rw [HL7.out] at hs8; have E8 := Aside0.mk hs8; clear hs8))
                go_wp2_with (first | (go_at_call 30; refine (lene E8.out).mono ?_; rw [HN7.out]; rintro e w9 ⟨rfl, rfl⟩))
                refine ⟨rfl, ?_⟩
                rw [HR3.out]
                exact ⟨rfl, E8.out.sr, E8.out.fr⟩
              · have d1 : decide ((8000 : Int) < wrap64 ((n7 : Int) + (Z.size : Int))) = false := by rw [TW.out]; exact decide_eq_false hbig
                have d2 : ((8000 : Int) < wrap64 ((n7 : Int) + (Z.size : Int))) = False := by rw [TW.out]; exact eq_false hbig
                have HTOT := Aside0.mk (show n7 + ((92 :: q).drop N).length ≤ 8000 by rw [← size_mkB ((92 :: q).drop N), hZ]; omega)
                have HR3 := Aside0.mk (show ex false (anL L) k1 l7 ((92 :: q).drop N) (A1 ++ [⟨119, ib, 0⟩]) = R by rw [HR2.out, room_ok]; have := HTOT.out; omega)
                have HZV := Aside0.mk hZ
                have HF := Aside0.mk (show need (A1 ++ [⟨119, ib, 0⟩]) ((92 :: q).drop N) < k1 ∧ k1 ≤ n ∧ (A1 ++ [(⟨119, ib, 0⟩ : As)]).length ≤ 500 from ⟨HNEED.out _ (by have := HTOT.out; omega), by have := HQ.out; omega, by have := HA1.out; omega⟩)
                rw [hS]
                clear hS2 hc hr hp hlen hq hS hes hP hl3 hi H1 HWID hz hwd hwz hN hT HIN0 hgr hmo hin g3a hsm hI hA hl7 hn7 hbig hZ hAns HR2
                go_wp2_with (first | (go_at_call 26; refine (ibc _ _ i HI.out _).mono ?_; rintro e w2 ⟨rfl, rfl⟩))
                go_wp2_with (first | (go_at_call 27; refine (wse HS.out P HPB.out).mono ?_; rintro e w3 ⟨rfl, hs3, _⟩; rw [HL3.out] at hs3; have E3 := Aside0.mk hs3; clear hs3))
                go_wp2_with (first | (go_at_call 28; refine (HASK.out _).mono ?_; rintro e w4 ⟨v0, v1, v2, v3, rfl, hb4⟩; have E4 := Aside0.mk ((E3.out.below hb4).below (below_alloc (Below.refl _ _) (.cells #[.int .u8 v0, .string v1, .int .i64 v2, .int .i64 v3] 58))); clear hb4))
                go_wp2_with (first | (go_at_call 31; refine (expand_width.calls 2 _ _ _ _ HV.out).mono ?_; rintro e w5 ⟨rfl, hd5⟩; have E5 := Aside0.mk (E4.out.below hd5.below); have c1 : w5.cell? ⟨b, 1, none⟩ = some (.bool false) := (blk_cell E5.out.sr.rd 1).trans rfl; clear hd5))
                go_wp2_with (first | (go_at_call 20; refine (HIN.out _ E5.out.sr).mono ?_; rintro e w6 ⟨rfl, hs6, hf6⟩; have E6 := Aside0.mk (E5.out.asked hs6 hf6); clear hs6 hf6))
                go_wp2_with (first | (go_at_call 29; refine (HAK.out _ E6.out.sr).mono ?_; rintro e w7 ⟨rfl, hs7, hf7⟩; have E7 := Aside0.mk (E6.out.asked hs7 hf7); clear hs7 hf7))
                go_wp2_with (first | (go_at_call 27; refine (wse E7.out ANS HB7.out.1).mono ?_; rintro e w8 ⟨rfl, hs8, _⟩; rw [HL7.out] at hs8; have E8 := Aside0.mk hs8; clear hs8))
                go_wp2_with (first | (go_at_call 30; refine (lene E8.out).mono ?_; rw [HN7.out]; rintro e w9 ⟨rfl, rfl⟩))
                go_roundg k1
                case measure => exact Nat.lt_succ_self _
                case rel => exact ⟨l7, (92 :: q).drop N, A1 ++ [(⟨119, ib, 0⟩ : As)], ⟨HR3.out, HF.out.1, by rw [HN7.out]; exact HTOT.out, HF.out.2.1, HF.out.2.2⟩, by rw [HZV.out], E8⟩
        | none =>
          obtain ⟨T9, n9, h9⟩ : ∃ (T9 : ByteArray) (n9 : Int), widV (wid (92 :: q)) = (T9, n9) := ⟨_, _, rfl⟩
          have HV := Aside0.mk (show expand_width.f 2 S2 = some (T9, n9) by rw [HWID.out, h9])
          have HRX := Aside0.mk (show R = exTail cp (fun o s => ex cp (anL L) k1 o s A) l3 A q by rw [← H1.out.1, ex_tail hc hes hz, hl3])
          have HLB := Aside0.mk (show l3.length ≤ 1000000 by have := HX.out; omega)
          have HNT := Aside0.mk (fun (s1 : List UInt8) (h8 : s1.length ≤ q.length) => (by have h1 := need_short (A := A) (s := s) (s1 := s1) (by have := HND.out; omega); have := HQ.out; omega : need A s1 < k1))
          cases cp with
          | false =>
            have hw : wid (92 :: q) = none := by simpa [widC] using hz
            obtain rfl : (0 : Int) = n9 := by rw [hw] at h9; exact congrArg Prod.snd h9
            have y1 : decide ((0 : Int) < 0) = false := by decide
            clear hw
            cases q with
            | nil =>
              have s1 : ((S2.size : Int) == 1) = true := beq_iff_eq.2 (by rw [← hS2, size_mkB]; rfl)
              have s2 : decide ((1 : Int) < (S2.size : Int)) = false := decide_eq_false (by rw [← hS2, size_mkB]; decide)
              have s3 : ((1 : Int) < (S2.size : Int)) = False := eq_false (by rw [← hS2, size_mkB]; decide)
              have s3b : (1 < S2.size) = False := eq_false (by rw [← hS2, size_mkB]; decide)
              have s4 : (1 ≤ (S2.size : Int)) = True := eq_true (by rw [← hS2, size_mkB]; decide)
              have s5 : (1 ≤ S2.size) = True := eq_true (by rw [← hS2, size_mkB]; decide)
              obtain ⟨Z, hZ⟩ : ∃ Z, mkB ([] : List UInt8) = Z := ⟨_, rfl⟩
              have HZV := Aside0.mk hZ
              have g3 : S2.extract 1 S2.size = Z := by rw [← hS2, ← hZ, extract_mkB, size_mkB, List.take_length]; rfl
              have HR3 := Aside0.mk (show ex false (anL L) k1 (l3 ++ [92]) [] A = R by rw [HRX.out]; rfl)
              have HF := Aside0.mk (show need A (([] : List UInt8)) < k1 ∧ (l3 ++ [92]).length + (([] : List UInt8)).length ≤ 8000 ∧ k1 ≤ n ∧ A.length ≤ 500 from ⟨HNT.out _ (by simp only [List.length_cons, List.length_nil]; omega), by simp only [List.length_append, List.length_cons, List.length_nil]; have := HX.out; simp only [List.length_cons, List.length_nil] at this; omega, by have := HQ.out; omega, by have := HQ.out; omega⟩)
              rw [hS]
              clear hS2 hc hr hp hlen hq hS hes hz hP hl3 hi H1 HWID h9 hZ
              go_wp2_with (first | (go_at_call 26; refine (ibc _ _ i HI.out _).mono ?_; rintro e w2 ⟨rfl, rfl⟩))
              go_wp2_with (first | (go_at_call 27; refine (wse HS.out P HPB.out).mono ?_; rintro e w3 ⟨rfl, hs3, _⟩; rw [HL3.out] at hs3; have E3 := Aside0.mk hs3; clear hs3))
              go_wp2_with (first | (go_at_call 28; refine (HASK.out _).mono ?_; rintro e w4 ⟨v0, v1, v2, v3, rfl, hb4⟩; have E4 := Aside0.mk ((E3.out.below hb4).below (below_alloc (Below.refl _ _) (.cells #[.int .u8 v0, .string v1, .int .i64 v2, .int .i64 v3] 58))); clear hb4))
              go_wp2_with (first | (go_at_call 31; refine (expand_width.calls 2 _ _ _ _ HV.out).mono ?_; rintro e w5 ⟨rfl, hd5⟩; have E5 := Aside0.mk (E4.out.below hd5.below); have c1 : w5.cell? ⟨b, 1, none⟩ = some (.bool false) := (blk_cell E5.out.sr.rd 1).trans rfl; clear hd5))
              go_wp2_with (first | (go_at_call 33; refine (wbe E5.out 92 92 rfl HLB.out).mono ?_; rintro e w8 ⟨rfl, hs8⟩; have E8 := Aside0.mk hs8; clear hs8))
              go_roundg k1
              case measure => exact Nat.lt_succ_self _
              case rel => exact ⟨l3 ++ [92], [], A, ⟨HR3.out, HF.out.1, HF.out.2.1, HF.out.2.2.1, HF.out.2.2.2⟩, by rw [HZV.out], E8⟩
            | cons d u =>
              have hsz : S2.size = u.length + 2 := by rw [← hS2, size_mkB]; rfl
              have s1 : ((S2.size : Int) == 1) = false := beq_eq_false_iff_ne.2 (by omega)
              have s2 : decide ((1 : Int) < (S2.size : Int)) = true := decide_eq_true (by omega)
              have s3 : ((1 : Int) < (S2.size : Int)) = True := eq_true (by omega)
              have s3b : (1 < S2.size) = True := eq_true (by omega)
              have s4 : (1 ≤ (S2.size : Int)) = True := eq_true (by omega)
              have s5 : (1 ≤ S2.size) = True := eq_true (by omega)
              have s6 : (2 ≤ (S2.size : Int)) = True := eq_true (by omega)
              have s7 : (2 ≤ S2.size) = True := eq_true (by omega)
              obtain ⟨C, hC⟩ : ∃ C : Int, (d.toNat : Int) = C := ⟨_, rfl⟩
              have HC := Aside0.mk hC
              have x1 : ∀ h, ((S2[1]'h).toNat : Int) = C := by rw [← hS2, ← hC]; exact fun _ => rfl
              have hCd : ∀ k : UInt8, d ≠ k → ((C == (k.toNat : Int)) : Bool) = false := fun k hk => beq_eq_false_iff_ne.2 (by rw [← hC]; intro e; exact hk (UInt8.toNat_inj.1 (by omega)))
              have hCe : ∀ k : UInt8, d = k → ((C == (k.toNat : Int)) : Bool) = true := fun k hk => beq_iff_eq.2 (by rw [← hC, hk])
              by_cases h34 : d = 34
              · have f1 : ((C == 34) : Bool) = true := hCe 34 h34
                have HR3 := Aside0.mk (show R = .ok l3 A by rw [HRX.out, exTail, if_pos h34])
                rw [hS]
                clear hS2 hc hr hp hlen hq hS hes hz hP hl3 hi H1 HWID h9 hsz hC hCd hCe h34
                go_wp2_with (first | (go_at_call 26; refine (ibc _ _ i HI.out _).mono ?_; rintro e w2 ⟨rfl, rfl⟩))
                go_wp2_with (first | (go_at_call 27; refine (wse HS.out P HPB.out).mono ?_; rintro e w3 ⟨rfl, hs3, _⟩; rw [HL3.out] at hs3; have E3 := Aside0.mk hs3; clear hs3))
                go_wp2_with (first | (go_at_call 28; refine (HASK.out _).mono ?_; rintro e w4 ⟨v0, v1, v2, v3, rfl, hb4⟩; have E4 := Aside0.mk ((E3.out.below hb4).below (below_alloc (Below.refl _ _) (.cells #[.int .u8 v0, .string v1, .int .i64 v2, .int .i64 v3] 58))); clear hb4))
                go_wp2_with (first | (go_at_call 31; refine (expand_width.calls 2 _ _ _ _ HV.out).mono ?_; rintro e w5 ⟨rfl, hd5⟩; have E5 := Aside0.mk (E4.out.below hd5.below); have c1 : w5.cell? ⟨b, 1, none⟩ = some (.bool false) := (blk_cell E5.out.sr.rd 1).trans rfl; clear hd5))
                go_wp2_with (first | (go_at_call 32; refine (stre E5.out).mono ?_; rintro e wz ⟨rfl, hsz, hfz⟩; have EZ := Aside0.mk (And.intro hsz hfz); clear hsz hfz))
                refine bodyPost_ret (results_tmp rfl _ _ _) rfl ?_
                rw [HR3.out]
                exact ⟨rfl, EZ.out⟩
              · have f1 : ((C == 34) : Bool) = false := hCd 34 h34
                obtain ⟨I, hI⟩ : ∃ I, Lib.indexByte [110, 42, 36] d = I := ⟨_, rfl⟩
                have HI4 := Aside0.mk (show Lib.indexByte (⟨#[110, 42, 36]⟩ : ByteArray).data.toList C.toNat.toUInt8 = I by rw [← hC, Int.toNat_natCast, show d.toNat.toUInt8 = d from UInt8.ofNat_toNat]; exact hI)
                have hin := in3_ix d
                rw [hI] at hin
                by_cases h3 : in3 d = true
                · have f2 : decide (0 ≤ I) = true := hin.trans h3
                  have f3 : (0 ≤ I) = True := eq_true (of_decide_eq_true f2)
                  obtain ⟨Z, hZ⟩ : ∃ Z, mkB (d :: u) = Z := ⟨_, rfl⟩
                  have HZV := Aside0.mk hZ
                  have g3 : S2.extract 1 S2.size = Z := by rw [← hS2, ← hZ, extract_mkB, size_mkB, List.take_length]; rfl
                  have HR3 := Aside0.mk (show ex false (anL L) k1 (l3 ++ [92]) (d :: u) A = R by rw [HRX.out, exTail, if_neg h34, if_pos (by rw [h3, Bool.true_or])])
                  have HF := Aside0.mk (show need A (d :: u) < k1 ∧ (l3 ++ [92]).length + (d :: u).length ≤ 8000 ∧ k1 ≤ n ∧ A.length ≤ 500 from ⟨HNT.out _ (by simp only [List.length_cons, List.length_nil]; omega), by simp only [List.length_append, List.length_cons, List.length_nil]; have := HX.out; simp only [List.length_cons, List.length_nil] at this; omega, by have := HQ.out; omega, by have := HQ.out; omega⟩)
                  rw [hS]
                  clear hS2 hc hr hp hlen hq hS hes hz hP hl3 hi H1 HWID h9 hsz hC hCd hCe hZ hI hin h34 h3
                  go_wp2_with (first | (go_at_call 26; refine (ibc _ _ i HI.out _).mono ?_; rintro e w2 ⟨rfl, rfl⟩))
                  go_wp2_with (first | (go_at_call 27; refine (wse HS.out P HPB.out).mono ?_; rintro e w3 ⟨rfl, hs3, _⟩; rw [HL3.out] at hs3; have E3 := Aside0.mk hs3; clear hs3))
                  go_wp2_with (first | (go_at_call 28; refine (HASK.out _).mono ?_; rintro e w4 ⟨v0, v1, v2, v3, rfl, hb4⟩; have E4 := Aside0.mk ((E3.out.below hb4).below (below_alloc (Below.refl _ _) (.cells #[.int .u8 v0, .string v1, .int .i64 v2, .int .i64 v3] 58))); clear hb4))
                  go_wp2_with (first | (go_at_call 31; refine (expand_width.calls 2 _ _ _ _ HV.out).mono ?_; rintro e w5 ⟨rfl, hd5⟩; have E5 := Aside0.mk (E4.out.below hd5.below); have c1 : w5.cell? ⟨b, 1, none⟩ = some (.bool false) := (blk_cell E5.out.sr.rd 1).trans rfl; clear hd5))
                  go_wp2_with (first | (go_at_call 26; refine (ibc _ _ I HI4.out _).mono ?_; rintro e w7 ⟨rfl, rfl⟩))
                  go_wp2_with (first | (go_at_call 33; refine (wbe E5.out 92 92 rfl HLB.out).mono ?_; rintro e w8 ⟨rfl, hs8⟩; have E8 := Aside0.mk hs8; clear hs8))
                  go_roundg k1
                  case measure => exact Nat.lt_succ_self _
                  case rel => exact ⟨l3 ++ [92], d :: u, A, ⟨HR3.out, HF.out.1, HF.out.2.1, HF.out.2.2.1, HF.out.2.2.2⟩, by rw [HZV.out], E8⟩
                · have h3f : in3 d = false := Bool.eq_false_iff.2 h3
                  have f2 : decide (0 ≤ I) = false := hin.trans h3f
                  have f3 : (0 ≤ I) = False := eq_false (of_decide_eq_false f2)
                  by_cases h119 : d = 119
                  · have f4 : ((C == 119) : Bool) = true := hCe 119 h119
                    obtain ⟨Z, hZ⟩ : ∃ Z, mkB (d :: u) = Z := ⟨_, rfl⟩
                    have HZV := Aside0.mk hZ
                    have g3 : S2.extract 1 S2.size = Z := by rw [← hS2, ← hZ, extract_mkB, size_mkB, List.take_length]; rfl
                    have HR3 := Aside0.mk (show ex false (anL L) k1 (l3 ++ [92]) (d :: u) A = R by rw [HRX.out, exTail, if_neg h34, if_pos (by rw [h119]; rfl)])
                    have HF := Aside0.mk (show need A (d :: u) < k1 ∧ (l3 ++ [92]).length + (d :: u).length ≤ 8000 ∧ k1 ≤ n ∧ A.length ≤ 500 from ⟨HNT.out _ (by simp only [List.length_cons, List.length_nil]; omega), by simp only [List.length_append, List.length_cons, List.length_nil]; have := HX.out; simp only [List.length_cons, List.length_nil] at this; omega, by have := HQ.out; omega, by have := HQ.out; omega⟩)
                    rw [hS]
                    clear hS2 hc hr hp hlen hq hS hes hz hP hl3 hi H1 HWID h9 hsz hC hCd hCe hZ hI hin h34 h3 h3f h119
                    go_wp2_with (first | (go_at_call 26; refine (ibc _ _ i HI.out _).mono ?_; rintro e w2 ⟨rfl, rfl⟩))
                    go_wp2_with (first | (go_at_call 27; refine (wse HS.out P HPB.out).mono ?_; rintro e w3 ⟨rfl, hs3, _⟩; rw [HL3.out] at hs3; have E3 := Aside0.mk hs3; clear hs3))
                    go_wp2_with (first | (go_at_call 28; refine (HASK.out _).mono ?_; rintro e w4 ⟨v0, v1, v2, v3, rfl, hb4⟩; have E4 := Aside0.mk ((E3.out.below hb4).below (below_alloc (Below.refl _ _) (.cells #[.int .u8 v0, .string v1, .int .i64 v2, .int .i64 v3] 58))); clear hb4))
                    go_wp2_with (first | (go_at_call 31; refine (expand_width.calls 2 _ _ _ _ HV.out).mono ?_; rintro e w5 ⟨rfl, hd5⟩; have E5 := Aside0.mk (E4.out.below hd5.below); have c1 : w5.cell? ⟨b, 1, none⟩ = some (.bool false) := (blk_cell E5.out.sr.rd 1).trans rfl; clear hd5))
                    go_wp2_with (first | (go_at_call 26; refine (ibc _ _ I HI4.out _).mono ?_; rintro e w7 ⟨rfl, rfl⟩))
                    go_wp2_with (first | (go_at_call 33; refine (wbe E5.out 92 92 rfl HLB.out).mono ?_; rintro e w8 ⟨rfl, hs8⟩; have E8 := Aside0.mk hs8; clear hs8))
                    go_roundg k1
                    case measure => exact Nat.lt_succ_self _
                    case rel => exact ⟨l3 ++ [92], d :: u, A, ⟨HR3.out, HF.out.1, HF.out.2.1, HF.out.2.2.1, HF.out.2.2.2⟩, by rw [HZV.out], E8⟩
                  · have f4 : ((C == 119) : Bool) = false := hCd 119 h119
                    obtain ⟨Z, hZ⟩ : ∃ Z, mkB u = Z := ⟨_, rfl⟩
                    have HZV := Aside0.mk hZ
                    have g3 : S2.extract 2 S2.size = Z := by rw [← hS2, ← hZ, extract_mkB, size_mkB, List.take_length]; rfl
                    obtain ⟨D2, hD⟩ : ∃ Z, mkB [92, d] = Z := ⟨_, rfl⟩
                    have g4 : S2.extract 0 2 = D2 := by rw [← hS2, ← hD, extract_mkB]; rfl
                    have HD2 := Aside0.mk (show l3.length + D2.size ≤ 1000000 ∧ l3 ++ D2.data.toList = l3 ++ [92, d] by rw [← hD, data_mkB, size_mkB]; exact ⟨by have := HX.out; simp only [List.length_cons, List.length_nil]; omega, rfl⟩)
                    have HR3 := Aside0.mk (show ex false (anL L) k1 (l3 ++ [92, d]) u A = R by rw [HRX.out, exTail, if_neg h34, if_neg (by rw [h3f, beq_eq_false_iff_ne.2 h119]; decide), if_neg (by rw [Bool.false_and]; decide)])
                    have HF := Aside0.mk (show need A (u) < k1 ∧ (l3 ++ [92, d]).length + (u).length ≤ 8000 ∧ k1 ≤ n ∧ A.length ≤ 500 from ⟨HNT.out _ (by simp only [List.length_cons, List.length_nil]; omega), by simp only [List.length_append, List.length_cons, List.length_nil]; have := HX.out; simp only [List.length_cons, List.length_nil] at this; omega, by have := HQ.out; omega, by have := HQ.out; omega⟩)
                    rw [hS]
                    clear hS2 hc hr hp hlen hq hS hes hz hP hl3 hi H1 HWID h9 hsz hC hCd hCe hZ hD hI hin h34 h3 h3f h119
                    go_wp2_with (first | (go_at_call 26; refine (ibc _ _ i HI.out _).mono ?_; rintro e w2 ⟨rfl, rfl⟩))
                    go_wp2_with (first | (go_at_call 27; refine (wse HS.out P HPB.out).mono ?_; rintro e w3 ⟨rfl, hs3, _⟩; rw [HL3.out] at hs3; have E3 := Aside0.mk hs3; clear hs3))
                    go_wp2_with (first | (go_at_call 28; refine (HASK.out _).mono ?_; rintro e w4 ⟨v0, v1, v2, v3, rfl, hb4⟩; have E4 := Aside0.mk ((E3.out.below hb4).below (below_alloc (Below.refl _ _) (.cells #[.int .u8 v0, .string v1, .int .i64 v2, .int .i64 v3] 58))); clear hb4))
                    go_wp2_with (first | (go_at_call 31; refine (expand_width.calls 2 _ _ _ _ HV.out).mono ?_; rintro e w5 ⟨rfl, hd5⟩; have E5 := Aside0.mk (E4.out.below hd5.below); have c1 : w5.cell? ⟨b, 1, none⟩ = some (.bool false) := (blk_cell E5.out.sr.rd 1).trans rfl; clear hd5))
                    go_wp2_with (first | (go_at_call 26; refine (ibc _ _ I HI4.out _).mono ?_; rintro e w7 ⟨rfl, rfl⟩))
                    go_wp2_with (first | (go_at_call 27; refine (wse E5.out D2 HD2.out.1).mono ?_; rintro e w8 ⟨rfl, hs8, _⟩; rw [HD2.out.2] at hs8; have E8 := Aside0.mk hs8; clear hs8))
                    go_roundg k1
                    case measure => exact Nat.lt_succ_self _
                    case rel => exact ⟨l3 ++ [92, d], u, A, ⟨HR3.out, HF.out.1, HF.out.2.1, HF.out.2.2.1, HF.out.2.2.2⟩, by rw [HZV.out], E8⟩
          | true =>
            by_cases h0 : (0 : Int) < n9
            · have y1 : decide ((0 : Int) < n9) = true := decide_eq_true h0
              have y2 : ((0 : Int) < n9) = True := eq_true h0
              clear h0
              cases q with
              | nil =>
                have s1 : ((S2.size : Int) == 1) = true := beq_iff_eq.2 (by rw [← hS2, size_mkB]; rfl)
                have s2 : decide ((1 : Int) < (S2.size : Int)) = false := decide_eq_false (by rw [← hS2, size_mkB]; decide)
                have s3 : ((1 : Int) < (S2.size : Int)) = False := eq_false (by rw [← hS2, size_mkB]; decide)
                have s3b : (1 < S2.size) = False := eq_false (by rw [← hS2, size_mkB]; decide)
                have s4 : (1 ≤ (S2.size : Int)) = True := eq_true (by rw [← hS2, size_mkB]; decide)
                have s5 : (1 ≤ S2.size) = True := eq_true (by rw [← hS2, size_mkB]; decide)
                obtain ⟨Z, hZ⟩ : ∃ Z, mkB ([] : List UInt8) = Z := ⟨_, rfl⟩
                have HZV := Aside0.mk hZ
                have g3 : S2.extract 1 S2.size = Z := by rw [← hS2, ← hZ, extract_mkB, size_mkB, List.take_length]; rfl
                have HR3 := Aside0.mk (show ex true (anL L) k1 (l3 ++ [92]) [] A = R by rw [HRX.out]; rfl)
                have HF := Aside0.mk (show need A (([] : List UInt8)) < k1 ∧ (l3 ++ [92]).length + (([] : List UInt8)).length ≤ 8000 ∧ k1 ≤ n ∧ A.length ≤ 500 from ⟨HNT.out _ (by simp only [List.length_cons, List.length_nil]; omega), by simp only [List.length_append, List.length_cons, List.length_nil]; have := HX.out; simp only [List.length_cons, List.length_nil] at this; omega, by have := HQ.out; omega, by have := HQ.out; omega⟩)
                rw [hS]
                clear hS2 hc hr hp hlen hq hS hes hz hP hl3 hi H1 HWID h9 hZ
                go_wp2_with (first | (go_at_call 26; refine (ibc _ _ i HI.out _).mono ?_; rintro e w2 ⟨rfl, rfl⟩))
                go_wp2_with (first | (go_at_call 27; refine (wse HS.out P HPB.out).mono ?_; rintro e w3 ⟨rfl, hs3, _⟩; rw [HL3.out] at hs3; have E3 := Aside0.mk hs3; clear hs3))
                go_wp2_with (first | (go_at_call 28; refine (HASK.out _).mono ?_; rintro e w4 ⟨v0, v1, v2, v3, rfl, hb4⟩; have E4 := Aside0.mk ((E3.out.below hb4).below (below_alloc (Below.refl _ _) (.cells #[.int .u8 v0, .string v1, .int .i64 v2, .int .i64 v3] 58))); clear hb4))
                go_wp2_with (first | (go_at_call 31; refine (expand_width.calls 2 _ _ _ _ HV.out).mono ?_; rintro e w5 ⟨rfl, hd5⟩; have E5 := Aside0.mk (E4.out.below hd5.below); have c1 : w5.cell? ⟨b, 1, none⟩ = some (.bool true) := (blk_cell E5.out.sr.rd 1).trans rfl; clear hd5))
                go_wp2_with (first | (go_at_call 33; refine (wbe E5.out 92 92 rfl HLB.out).mono ?_; rintro e w8 ⟨rfl, hs8⟩; have E8 := Aside0.mk hs8; clear hs8))
                go_roundg k1
                case measure => exact Nat.lt_succ_self _
                case rel => exact ⟨l3 ++ [92], [], A, ⟨HR3.out, HF.out.1, HF.out.2.1, HF.out.2.2.1, HF.out.2.2.2⟩, by rw [HZV.out], E8⟩
              | cons d u =>
                have hsz : S2.size = u.length + 2 := by rw [← hS2, size_mkB]; rfl
                have s1 : ((S2.size : Int) == 1) = false := beq_eq_false_iff_ne.2 (by omega)
                have s2 : decide ((1 : Int) < (S2.size : Int)) = true := decide_eq_true (by omega)
                have s3 : ((1 : Int) < (S2.size : Int)) = True := eq_true (by omega)
                have s3b : (1 < S2.size) = True := eq_true (by omega)
                have s4 : (1 ≤ (S2.size : Int)) = True := eq_true (by omega)
                have s5 : (1 ≤ S2.size) = True := eq_true (by omega)
                have s6 : (2 ≤ (S2.size : Int)) = True := eq_true (by omega)
                have s7 : (2 ≤ S2.size) = True := eq_true (by omega)
                obtain ⟨C, hC⟩ : ∃ C : Int, (d.toNat : Int) = C := ⟨_, rfl⟩
                have HC := Aside0.mk hC
                have x1 : ∀ h, ((S2[1]'h).toNat : Int) = C := by rw [← hS2, ← hC]; exact fun _ => rfl
                have hCd : ∀ k : UInt8, d ≠ k → ((C == (k.toNat : Int)) : Bool) = false := fun k hk => beq_eq_false_iff_ne.2 (by rw [← hC]; intro e; exact hk (UInt8.toNat_inj.1 (by omega)))
                have hCe : ∀ k : UInt8, d = k → ((C == (k.toNat : Int)) : Bool) = true := fun k hk => beq_iff_eq.2 (by rw [← hC, hk])
                by_cases h34 : d = 34
                · have f1 : ((C == 34) : Bool) = true := hCe 34 h34
                  have HR3 := Aside0.mk (show R = .ok l3 A by rw [HRX.out, exTail, if_pos h34])
                  rw [hS]
                  clear hS2 hc hr hp hlen hq hS hes hz hP hl3 hi H1 HWID h9 hsz hC hCd hCe h34
                  go_wp2_with (first | (go_at_call 26; refine (ibc _ _ i HI.out _).mono ?_; rintro e w2 ⟨rfl, rfl⟩))
                  go_wp2_with (first | (go_at_call 27; refine (wse HS.out P HPB.out).mono ?_; rintro e w3 ⟨rfl, hs3, _⟩; rw [HL3.out] at hs3; have E3 := Aside0.mk hs3; clear hs3))
                  go_wp2_with (first | (go_at_call 28; refine (HASK.out _).mono ?_; rintro e w4 ⟨v0, v1, v2, v3, rfl, hb4⟩; have E4 := Aside0.mk ((E3.out.below hb4).below (below_alloc (Below.refl _ _) (.cells #[.int .u8 v0, .string v1, .int .i64 v2, .int .i64 v3] 58))); clear hb4))
                  go_wp2_with (first | (go_at_call 31; refine (expand_width.calls 2 _ _ _ _ HV.out).mono ?_; rintro e w5 ⟨rfl, hd5⟩; have E5 := Aside0.mk (E4.out.below hd5.below); have c1 : w5.cell? ⟨b, 1, none⟩ = some (.bool true) := (blk_cell E5.out.sr.rd 1).trans rfl; clear hd5))
                  go_wp2_with (first | (go_at_call 32; refine (stre E5.out).mono ?_; rintro e wz ⟨rfl, hsz, hfz⟩; have EZ := Aside0.mk (And.intro hsz hfz); clear hsz hfz))
                  refine bodyPost_ret (results_tmp rfl _ _ _) rfl ?_
                  rw [HR3.out]
                  exact ⟨rfl, EZ.out⟩
                · have f1 : ((C == 34) : Bool) = false := hCd 34 h34
                  obtain ⟨I, hI⟩ : ∃ I, Lib.indexByte [110, 42, 36] d = I := ⟨_, rfl⟩
                  have HI4 := Aside0.mk (show Lib.indexByte (⟨#[110, 42, 36]⟩ : ByteArray).data.toList C.toNat.toUInt8 = I by rw [← hC, Int.toNat_natCast, show d.toNat.toUInt8 = d from UInt8.ofNat_toNat]; exact hI)
                  have hin := in3_ix d
                  rw [hI] at hin
                  by_cases h3 : in3 d = true
                  · have f2 : decide (0 ≤ I) = true := hin.trans h3
                    have f3 : (0 ≤ I) = True := eq_true (of_decide_eq_true f2)
                    obtain ⟨Z, hZ⟩ : ∃ Z, mkB (d :: u) = Z := ⟨_, rfl⟩
                    have HZV := Aside0.mk hZ
                    have g3 : S2.extract 1 S2.size = Z := by rw [← hS2, ← hZ, extract_mkB, size_mkB, List.take_length]; rfl
                    have HR3 := Aside0.mk (show ex true (anL L) k1 (l3 ++ [92]) (d :: u) A = R by rw [HRX.out, exTail, if_neg h34, if_pos (by rw [h3, Bool.true_or])])
                    have HF := Aside0.mk (show need A (d :: u) < k1 ∧ (l3 ++ [92]).length + (d :: u).length ≤ 8000 ∧ k1 ≤ n ∧ A.length ≤ 500 from ⟨HNT.out _ (by simp only [List.length_cons, List.length_nil]; omega), by simp only [List.length_append, List.length_cons, List.length_nil]; have := HX.out; simp only [List.length_cons, List.length_nil] at this; omega, by have := HQ.out; omega, by have := HQ.out; omega⟩)
                    rw [hS]
                    clear hS2 hc hr hp hlen hq hS hes hz hP hl3 hi H1 HWID h9 hsz hC hCd hCe hZ hI hin h34 h3
                    go_wp2_with (first | (go_at_call 26; refine (ibc _ _ i HI.out _).mono ?_; rintro e w2 ⟨rfl, rfl⟩))
                    go_wp2_with (first | (go_at_call 27; refine (wse HS.out P HPB.out).mono ?_; rintro e w3 ⟨rfl, hs3, _⟩; rw [HL3.out] at hs3; have E3 := Aside0.mk hs3; clear hs3))
                    go_wp2_with (first | (go_at_call 28; refine (HASK.out _).mono ?_; rintro e w4 ⟨v0, v1, v2, v3, rfl, hb4⟩; have E4 := Aside0.mk ((E3.out.below hb4).below (below_alloc (Below.refl _ _) (.cells #[.int .u8 v0, .string v1, .int .i64 v2, .int .i64 v3] 58))); clear hb4))
                    go_wp2_with (first | (go_at_call 31; refine (expand_width.calls 2 _ _ _ _ HV.out).mono ?_; rintro e w5 ⟨rfl, hd5⟩; have E5 := Aside0.mk (E4.out.below hd5.below); have c1 : w5.cell? ⟨b, 1, none⟩ = some (.bool true) := (blk_cell E5.out.sr.rd 1).trans rfl; clear hd5))
                    go_wp2_with (first | (go_at_call 26; refine (ibc _ _ I HI4.out _).mono ?_; rintro e w7 ⟨rfl, rfl⟩))
                    go_wp2_with (first | (go_at_call 33; refine (wbe E5.out 92 92 rfl HLB.out).mono ?_; rintro e w8 ⟨rfl, hs8⟩; have E8 := Aside0.mk hs8; clear hs8))
                    go_roundg k1
                    case measure => exact Nat.lt_succ_self _
                    case rel => exact ⟨l3 ++ [92], d :: u, A, ⟨HR3.out, HF.out.1, HF.out.2.1, HF.out.2.2.1, HF.out.2.2.2⟩, by rw [HZV.out], E8⟩
                  · have h3f : in3 d = false := Bool.eq_false_iff.2 h3
                    have f2 : decide (0 ≤ I) = false := hin.trans h3f
                    have f3 : (0 ≤ I) = False := eq_false (of_decide_eq_false f2)
                    by_cases h92 : d = 92
                    · have f4 : ((C == 92) : Bool) = true := hCe 92 h92
                      have f5 : ((C == 119) : Bool) = false := hCd 119 (by rw [h92]; decide)
                      obtain ⟨Z, hZ⟩ : ∃ Z, mkB u = Z := ⟨_, rfl⟩
                      have HZV := Aside0.mk hZ
                      have g3 : S2.extract 2 S2.size = Z := by rw [← hS2, ← hZ, extract_mkB, size_mkB, List.take_length]; rfl
                      have HR3 := Aside0.mk (show ex true (anL L) k1 (l3 ++ [d]) u A = R by rw [HRX.out, exTail, if_neg h34, if_neg (by rw [h3f, h92]; decide), if_pos (by rw [h92]; decide)])
                      have HF := Aside0.mk (show need A (u) < k1 ∧ (l3 ++ [d]).length + (u).length ≤ 8000 ∧ k1 ≤ n ∧ A.length ≤ 500 from ⟨HNT.out _ (by simp only [List.length_cons, List.length_nil]; omega), by simp only [List.length_append, List.length_cons, List.length_nil]; have := HX.out; simp only [List.length_cons, List.length_nil] at this; omega, by have := HQ.out; omega, by have := HQ.out; omega⟩)
                      rw [hS]
                      clear hS2 hc hr hp hlen hq hS hes hz hP hl3 hi H1 HWID h9 hsz hC hCd hCe hZ hI hin h34 h3 h3f h92
                      go_wp2_with (first | (go_at_call 26; refine (ibc _ _ i HI.out _).mono ?_; rintro e w2 ⟨rfl, rfl⟩))
                      go_wp2_with (first | (go_at_call 27; refine (wse HS.out P HPB.out).mono ?_; rintro e w3 ⟨rfl, hs3, _⟩; rw [HL3.out] at hs3; have E3 := Aside0.mk hs3; clear hs3))
                      go_wp2_with (first | (go_at_call 28; refine (HASK.out _).mono ?_; rintro e w4 ⟨v0, v1, v2, v3, rfl, hb4⟩; have E4 := Aside0.mk ((E3.out.below hb4).below (below_alloc (Below.refl _ _) (.cells #[.int .u8 v0, .string v1, .int .i64 v2, .int .i64 v3] 58))); clear hb4))
                      go_wp2_with (first | (go_at_call 31; refine (expand_width.calls 2 _ _ _ _ HV.out).mono ?_; rintro e w5 ⟨rfl, hd5⟩; have E5 := Aside0.mk (E4.out.below hd5.below); have c1 : w5.cell? ⟨b, 1, none⟩ = some (.bool true) := (blk_cell E5.out.sr.rd 1).trans rfl; clear hd5))
                      go_wp2_with (first | (go_at_call 26; refine (ibc _ _ I HI4.out _).mono ?_; rintro e w7 ⟨rfl, rfl⟩))
                      go_wp2_with (first | (go_at_call 33; refine (wbe E5.out d C HC.out HLB.out).mono ?_; rintro e w8 ⟨rfl, hs8⟩; have E8 := Aside0.mk hs8; clear hs8))
                      go_roundg k1
                      case measure => exact Nat.lt_succ_self _
                      case rel => exact ⟨l3 ++ [d], u, A, ⟨HR3.out, HF.out.1, HF.out.2.1, HF.out.2.2.1, HF.out.2.2.2⟩, by rw [HZV.out], E8⟩
                    · have f7 : ((C == 92) : Bool) = false := hCd 92 h92
                      by_cases h46 : d = 46
                      · have f4 : ((C == 46) : Bool) = true := hCe 46 h46
                        have f5 : ((C == 119) : Bool) = false := hCd 119 (by rw [h46]; decide)
                        have f6 : ((C == 92) : Bool) = false := hCd 92 h92
                        obtain ⟨Z, hZ⟩ : ∃ Z, mkB u = Z := ⟨_, rfl⟩
                        have HZV := Aside0.mk hZ
                        have g3 : S2.extract 2 S2.size = Z := by rw [← hS2, ← hZ, extract_mkB, size_mkB, List.take_length]; rfl
                        have HR3 := Aside0.mk (show ex true (anL L) k1 (l3 ++ [d]) u A = R by rw [HRX.out, exTail, if_neg h34, if_neg (by rw [h3f, h46]; decide), if_pos (by rw [h46]; decide)])
                        have HF := Aside0.mk (show need A (u) < k1 ∧ (l3 ++ [d]).length + (u).length ≤ 8000 ∧ k1 ≤ n ∧ A.length ≤ 500 from ⟨HNT.out _ (by simp only [List.length_cons, List.length_nil]; omega), by simp only [List.length_append, List.length_cons, List.length_nil]; have := HX.out; simp only [List.length_cons, List.length_nil] at this; omega, by have := HQ.out; omega, by have := HQ.out; omega⟩)
                        rw [hS]
                        clear hS2 hc hr hp hlen hq hS hes hz hP hl3 hi H1 HWID h9 hsz hC hCd hCe hZ hI hin h34 h3 h3f h46 h92
                        go_wp2_with (first | (go_at_call 26; refine (ibc _ _ i HI.out _).mono ?_; rintro e w2 ⟨rfl, rfl⟩))
                        go_wp2_with (first | (go_at_call 27; refine (wse HS.out P HPB.out).mono ?_; rintro e w3 ⟨rfl, hs3, _⟩; rw [HL3.out] at hs3; have E3 := Aside0.mk hs3; clear hs3))
                        go_wp2_with (first | (go_at_call 28; refine (HASK.out _).mono ?_; rintro e w4 ⟨v0, v1, v2, v3, rfl, hb4⟩; have E4 := Aside0.mk ((E3.out.below hb4).below (below_alloc (Below.refl _ _) (.cells #[.int .u8 v0, .string v1, .int .i64 v2, .int .i64 v3] 58))); clear hb4))
                        go_wp2_with (first | (go_at_call 31; refine (expand_width.calls 2 _ _ _ _ HV.out).mono ?_; rintro e w5 ⟨rfl, hd5⟩; have E5 := Aside0.mk (E4.out.below hd5.below); have c1 : w5.cell? ⟨b, 1, none⟩ = some (.bool true) := (blk_cell E5.out.sr.rd 1).trans rfl; clear hd5))
                        go_wp2_with (first | (go_at_call 26; refine (ibc _ _ I HI4.out _).mono ?_; rintro e w7 ⟨rfl, rfl⟩))
                        go_wp2_with (first | (go_at_call 33; refine (wbe E5.out d C HC.out HLB.out).mono ?_; rintro e w8 ⟨rfl, hs8⟩; have E8 := Aside0.mk hs8; clear hs8))
                        go_roundg k1
                        case measure => exact Nat.lt_succ_self _
                        case rel => exact ⟨l3 ++ [d], u, A, ⟨HR3.out, HF.out.1, HF.out.2.1, HF.out.2.2.1, HF.out.2.2.2⟩, by rw [HZV.out], E8⟩
                      · have f8 : ((C == 46) : Bool) = false := hCd 46 h46
                        cases h119 : (C == 119 : Bool) with
                        | true =>
                          obtain ⟨Z, hZ⟩ : ∃ Z, mkB u = Z := ⟨_, rfl⟩
                          have HZV := Aside0.mk hZ
                          have g3 : S2.extract 2 S2.size = Z := by rw [← hS2, ← hZ, extract_mkB, size_mkB, List.take_length]; rfl
                          obtain ⟨D2, hD⟩ : ∃ Z, mkB [92, d] = Z := ⟨_, rfl⟩
                          have g4 : S2.extract 0 2 = D2 := by rw [← hS2, ← hD, extract_mkB]; rfl
                          have HD2 := Aside0.mk (show l3.length + D2.size ≤ 1000000 ∧ l3 ++ D2.data.toList = l3 ++ [92, d] by rw [← hD, data_mkB, size_mkB]; exact ⟨by have := HX.out; simp only [List.length_cons, List.length_nil]; omega, rfl⟩)
                          have HR3 := Aside0.mk (show ex true (anL L) k1 (l3 ++ [92, d]) u A = R by rw [HRX.out, exTail, if_neg h34, if_neg (by rw [h3f, Bool.not_true, Bool.and_false]; decide), if_neg (by rw [beq_eq_false_iff_ne.2 h92, beq_eq_false_iff_ne.2 h46]; decide)])
                          have HF := Aside0.mk (show need A (u) < k1 ∧ (l3 ++ [92, d]).length + (u).length ≤ 8000 ∧ k1 ≤ n ∧ A.length ≤ 500 from ⟨HNT.out _ (by simp only [List.length_cons, List.length_nil]; omega), by simp only [List.length_append, List.length_cons, List.length_nil]; have := HX.out; simp only [List.length_cons, List.length_nil] at this; omega, by have := HQ.out; omega, by have := HQ.out; omega⟩)
                          rw [hS]
                          clear hS2 hc hr hp hlen hq hS hes hz hP hl3 hi H1 HWID h9 hsz hC hCd hCe hZ hD hI hin h34 h3 h3f h92 h46
                          go_wp2_with (first | (go_at_call 26; refine (ibc _ _ i HI.out _).mono ?_; rintro e w2 ⟨rfl, rfl⟩))
                          go_wp2_with (first | (go_at_call 27; refine (wse HS.out P HPB.out).mono ?_; rintro e w3 ⟨rfl, hs3, _⟩; rw [HL3.out] at hs3; have E3 := Aside0.mk hs3; clear hs3))
                          go_wp2_with (first | (go_at_call 28; refine (HASK.out _).mono ?_; rintro e w4 ⟨v0, v1, v2, v3, rfl, hb4⟩; have E4 := Aside0.mk ((E3.out.below hb4).below (below_alloc (Below.refl _ _) (.cells #[.int .u8 v0, .string v1, .int .i64 v2, .int .i64 v3] 58))); clear hb4))
                          go_wp2_with (first | (go_at_call 31; refine (expand_width.calls 2 _ _ _ _ HV.out).mono ?_; rintro e w5 ⟨rfl, hd5⟩; have E5 := Aside0.mk (E4.out.below hd5.below); have c1 : w5.cell? ⟨b, 1, none⟩ = some (.bool true) := (blk_cell E5.out.sr.rd 1).trans rfl; clear hd5))
                          go_wp2_with (first | (go_at_call 26; refine (ibc _ _ I HI4.out _).mono ?_; rintro e w7 ⟨rfl, rfl⟩))
                          go_wp2_with (first | (go_at_call 27; refine (wse E5.out D2 HD2.out.1).mono ?_; rintro e w8 ⟨rfl, hs8, _⟩; rw [HD2.out.2] at hs8; have E8 := Aside0.mk hs8; clear hs8))
                          go_roundg k1
                          case measure => exact Nat.lt_succ_self _
                          case rel => exact ⟨l3 ++ [92, d], u, A, ⟨HR3.out, HF.out.1, HF.out.2.1, HF.out.2.2.1, HF.out.2.2.2⟩, by rw [HZV.out], E8⟩
                        | false =>
                          obtain ⟨Z, hZ⟩ : ∃ Z, mkB u = Z := ⟨_, rfl⟩
                          have HZV := Aside0.mk hZ
                          have g3 : S2.extract 2 S2.size = Z := by rw [← hS2, ← hZ, extract_mkB, size_mkB, List.take_length]; rfl
                          obtain ⟨D2, hD⟩ : ∃ Z, mkB [92, d] = Z := ⟨_, rfl⟩
                          have g4 : S2.extract 0 2 = D2 := by rw [← hS2, ← hD, extract_mkB]; rfl
                          have HD2 := Aside0.mk (show l3.length + D2.size ≤ 1000000 ∧ l3 ++ D2.data.toList = l3 ++ [92, d] by rw [← hD, data_mkB, size_mkB]; exact ⟨by have := HX.out; simp only [List.length_cons, List.length_nil]; omega, rfl⟩)
                          have HR3 := Aside0.mk (show ex true (anL L) k1 (l3 ++ [92, d]) u A = R by rw [HRX.out, exTail, if_neg h34, if_neg (by rw [h3f, Bool.not_true, Bool.and_false]; decide), if_neg (by rw [beq_eq_false_iff_ne.2 h92, beq_eq_false_iff_ne.2 h46]; decide)])
                          have HF := Aside0.mk (show need A (u) < k1 ∧ (l3 ++ [92, d]).length + (u).length ≤ 8000 ∧ k1 ≤ n ∧ A.length ≤ 500 from ⟨HNT.out _ (by simp only [List.length_cons, List.length_nil]; omega), by simp only [List.length_append, List.length_cons, List.length_nil]; have := HX.out; simp only [List.length_cons, List.length_nil] at this; omega, by have := HQ.out; omega, by have := HQ.out; omega⟩)
                          rw [hS]
                          clear hS2 hc hr hp hlen hq hS hes hz hP hl3 hi H1 HWID h9 hsz hC hCd hCe hZ hD hI hin h34 h3 h3f h92 h46
                          go_wp2_with (first | (go_at_call 26; refine (ibc _ _ i HI.out _).mono ?_; rintro e w2 ⟨rfl, rfl⟩))
                          go_wp2_with (first | (go_at_call 27; refine (wse HS.out P HPB.out).mono ?_; rintro e w3 ⟨rfl, hs3, _⟩; rw [HL3.out] at hs3; have E3 := Aside0.mk hs3; clear hs3))
                          go_wp2_with (first | (go_at_call 28; refine (HASK.out _).mono ?_; rintro e w4 ⟨v0, v1, v2, v3, rfl, hb4⟩; have E4 := Aside0.mk ((E3.out.below hb4).below (below_alloc (Below.refl _ _) (.cells #[.int .u8 v0, .string v1, .int .i64 v2, .int .i64 v3] 58))); clear hb4))
                          go_wp2_with (first | (go_at_call 31; refine (expand_width.calls 2 _ _ _ _ HV.out).mono ?_; rintro e w5 ⟨rfl, hd5⟩; have E5 := Aside0.mk (E4.out.below hd5.below); have c1 : w5.cell? ⟨b, 1, none⟩ = some (.bool true) := (blk_cell E5.out.sr.rd 1).trans rfl; clear hd5))
                          go_wp2_with (first | (go_at_call 26; refine (ibc _ _ I HI4.out _).mono ?_; rintro e w7 ⟨rfl, rfl⟩))
                          go_wp2_with (first | (go_at_call 27; refine (wse E5.out D2 HD2.out.1).mono ?_; rintro e w8 ⟨rfl, hs8, _⟩; rw [HD2.out.2] at hs8; have E8 := Aside0.mk hs8; clear hs8))
                          go_roundg k1
                          case measure => exact Nat.lt_succ_self _
                          case rel => exact ⟨l3 ++ [92, d], u, A, ⟨HR3.out, HF.out.1, HF.out.2.1, HF.out.2.2.1, HF.out.2.2.2⟩, by rw [HZV.out], E8⟩
            · have y1 : decide ((0 : Int) < n9) = false := decide_eq_false h0
              have y2 : ((0 : Int) < n9) = False := eq_false h0
              clear h0
              cases q with
              | nil =>
                have s1 : ((S2.size : Int) == 1) = true := beq_iff_eq.2 (by rw [← hS2, size_mkB]; rfl)
                have s2 : decide ((1 : Int) < (S2.size : Int)) = false := decide_eq_false (by rw [← hS2, size_mkB]; decide)
                have s3 : ((1 : Int) < (S2.size : Int)) = False := eq_false (by rw [← hS2, size_mkB]; decide)
                have s3b : (1 < S2.size) = False := eq_false (by rw [← hS2, size_mkB]; decide)
                have s4 : (1 ≤ (S2.size : Int)) = True := eq_true (by rw [← hS2, size_mkB]; decide)
                have s5 : (1 ≤ S2.size) = True := eq_true (by rw [← hS2, size_mkB]; decide)
                obtain ⟨Z, hZ⟩ : ∃ Z, mkB ([] : List UInt8) = Z := ⟨_, rfl⟩
                have HZV := Aside0.mk hZ
                have g3 : S2.extract 1 S2.size = Z := by rw [← hS2, ← hZ, extract_mkB, size_mkB, List.take_length]; rfl
                have HR3 := Aside0.mk (show ex true (anL L) k1 (l3 ++ [92]) [] A = R by rw [HRX.out]; rfl)
                have HF := Aside0.mk (show need A (([] : List UInt8)) < k1 ∧ (l3 ++ [92]).length + (([] : List UInt8)).length ≤ 8000 ∧ k1 ≤ n ∧ A.length ≤ 500 from ⟨HNT.out _ (by simp only [List.length_cons, List.length_nil]; omega), by simp only [List.length_append, List.length_cons, List.length_nil]; have := HX.out; simp only [List.length_cons, List.length_nil] at this; omega, by have := HQ.out; omega, by have := HQ.out; omega⟩)
                rw [hS]
                clear hS2 hc hr hp hlen hq hS hes hz hP hl3 hi H1 HWID h9 hZ
                go_wp2_with (first | (go_at_call 26; refine (ibc _ _ i HI.out _).mono ?_; rintro e w2 ⟨rfl, rfl⟩))
                go_wp2_with (first | (go_at_call 27; refine (wse HS.out P HPB.out).mono ?_; rintro e w3 ⟨rfl, hs3, _⟩; rw [HL3.out] at hs3; have E3 := Aside0.mk hs3; clear hs3))
                go_wp2_with (first | (go_at_call 28; refine (HASK.out _).mono ?_; rintro e w4 ⟨v0, v1, v2, v3, rfl, hb4⟩; have E4 := Aside0.mk ((E3.out.below hb4).below (below_alloc (Below.refl _ _) (.cells #[.int .u8 v0, .string v1, .int .i64 v2, .int .i64 v3] 58))); clear hb4))
                go_wp2_with (first | (go_at_call 31; refine (expand_width.calls 2 _ _ _ _ HV.out).mono ?_; rintro e w5 ⟨rfl, hd5⟩; have E5 := Aside0.mk (E4.out.below hd5.below); have c1 : w5.cell? ⟨b, 1, none⟩ = some (.bool true) := (blk_cell E5.out.sr.rd 1).trans rfl; clear hd5))
                go_wp2_with (first | (go_at_call 33; refine (wbe E5.out 92 92 rfl HLB.out).mono ?_; rintro e w8 ⟨rfl, hs8⟩; have E8 := Aside0.mk hs8; clear hs8))
                go_roundg k1
                case measure => exact Nat.lt_succ_self _
                case rel => exact ⟨l3 ++ [92], [], A, ⟨HR3.out, HF.out.1, HF.out.2.1, HF.out.2.2.1, HF.out.2.2.2⟩, by rw [HZV.out], E8⟩
              | cons d u =>
                have hsz : S2.size = u.length + 2 := by rw [← hS2, size_mkB]; rfl
                have s1 : ((S2.size : Int) == 1) = false := beq_eq_false_iff_ne.2 (by omega)
                have s2 : decide ((1 : Int) < (S2.size : Int)) = true := decide_eq_true (by omega)
                have s3 : ((1 : Int) < (S2.size : Int)) = True := eq_true (by omega)
                have s3b : (1 < S2.size) = True := eq_true (by omega)
                have s4 : (1 ≤ (S2.size : Int)) = True := eq_true (by omega)
                have s5 : (1 ≤ S2.size) = True := eq_true (by omega)
                have s6 : (2 ≤ (S2.size : Int)) = True := eq_true (by omega)
                have s7 : (2 ≤ S2.size) = True := eq_true (by omega)
                obtain ⟨C, hC⟩ : ∃ C : Int, (d.toNat : Int) = C := ⟨_, rfl⟩
                have HC := Aside0.mk hC
                have x1 : ∀ h, ((S2[1]'h).toNat : Int) = C := by rw [← hS2, ← hC]; exact fun _ => rfl
                have hCd : ∀ k : UInt8, d ≠ k → ((C == (k.toNat : Int)) : Bool) = false := fun k hk => beq_eq_false_iff_ne.2 (by rw [← hC]; intro e; exact hk (UInt8.toNat_inj.1 (by omega)))
                have hCe : ∀ k : UInt8, d = k → ((C == (k.toNat : Int)) : Bool) = true := fun k hk => beq_iff_eq.2 (by rw [← hC, hk])
                by_cases h34 : d = 34
                · have f1 : ((C == 34) : Bool) = true := hCe 34 h34
                  have HR3 := Aside0.mk (show R = .ok l3 A by rw [HRX.out, exTail, if_pos h34])
                  rw [hS]
                  clear hS2 hc hr hp hlen hq hS hes hz hP hl3 hi H1 HWID h9 hsz hC hCd hCe h34
                  go_wp2_with (first | (go_at_call 26; refine (ibc _ _ i HI.out _).mono ?_; rintro e w2 ⟨rfl, rfl⟩))
                  go_wp2_with (first | (go_at_call 27; refine (wse HS.out P HPB.out).mono ?_; rintro e w3 ⟨rfl, hs3, _⟩; rw [HL3.out] at hs3; have E3 := Aside0.mk hs3; clear hs3))
                  go_wp2_with (first | (go_at_call 28; refine (HASK.out _).mono ?_; rintro e w4 ⟨v0, v1, v2, v3, rfl, hb4⟩; have E4 := Aside0.mk ((E3.out.below hb4).below (below_alloc (Below.refl _ _) (.cells #[.int .u8 v0, .string v1, .int .i64 v2, .int .i64 v3] 58))); clear hb4))
                  go_wp2_with (first | (go_at_call 31; refine (expand_width.calls 2 _ _ _ _ HV.out).mono ?_; rintro e w5 ⟨rfl, hd5⟩; have E5 := Aside0.mk (E4.out.below hd5.below); have c1 : w5.cell? ⟨b, 1, none⟩ = some (.bool true) := (blk_cell E5.out.sr.rd 1).trans rfl; clear hd5))
                  go_wp2_with (first | (go_at_call 32; refine (stre E5.out).mono ?_; rintro e wz ⟨rfl, hsz, hfz⟩; have EZ := Aside0.mk (And.intro hsz hfz); clear hsz hfz))
                  refine bodyPost_ret (results_tmp rfl _ _ _) rfl ?_
                  rw [HR3.out]
                  exact ⟨rfl, EZ.out⟩
                · have f1 : ((C == 34) : Bool) = false := hCd 34 h34
                  obtain ⟨I, hI⟩ : ∃ I, Lib.indexByte [110, 42, 36] d = I := ⟨_, rfl⟩
                  have HI4 := Aside0.mk (show Lib.indexByte (⟨#[110, 42, 36]⟩ : ByteArray).data.toList C.toNat.toUInt8 = I by rw [← hC, Int.toNat_natCast, show d.toNat.toUInt8 = d from UInt8.ofNat_toNat]; exact hI)
                  have hin := in3_ix d
                  rw [hI] at hin
                  by_cases h3 : in3 d = true
                  · have f2 : decide (0 ≤ I) = true := hin.trans h3
                    have f3 : (0 ≤ I) = True := eq_true (of_decide_eq_true f2)
                    obtain ⟨Z, hZ⟩ : ∃ Z, mkB (d :: u) = Z := ⟨_, rfl⟩
                    have HZV := Aside0.mk hZ
                    have g3 : S2.extract 1 S2.size = Z := by rw [← hS2, ← hZ, extract_mkB, size_mkB, List.take_length]; rfl
                    have HR3 := Aside0.mk (show ex true (anL L) k1 (l3 ++ [92]) (d :: u) A = R by rw [HRX.out, exTail, if_neg h34, if_pos (by rw [h3, Bool.true_or])])
                    have HF := Aside0.mk (show need A (d :: u) < k1 ∧ (l3 ++ [92]).length + (d :: u).length ≤ 8000 ∧ k1 ≤ n ∧ A.length ≤ 500 from ⟨HNT.out _ (by simp only [List.length_cons, List.length_nil]; omega), by simp only [List.length_append, List.length_cons, List.length_nil]; have := HX.out; simp only [List.length_cons, List.length_nil] at this; omega, by have := HQ.out; omega, by have := HQ.out; omega⟩)
                    rw [hS]
                    clear hS2 hc hr hp hlen hq hS hes hz hP hl3 hi H1 HWID h9 hsz hC hCd hCe hZ hI hin h34 h3
                    go_wp2_with (first | (go_at_call 26; refine (ibc _ _ i HI.out _).mono ?_; rintro e w2 ⟨rfl, rfl⟩))
                    go_wp2_with (first | (go_at_call 27; refine (wse HS.out P HPB.out).mono ?_; rintro e w3 ⟨rfl, hs3, _⟩; rw [HL3.out] at hs3; have E3 := Aside0.mk hs3; clear hs3))
                    go_wp2_with (first | (go_at_call 28; refine (HASK.out _).mono ?_; rintro e w4 ⟨v0, v1, v2, v3, rfl, hb4⟩; have E4 := Aside0.mk ((E3.out.below hb4).below (below_alloc (Below.refl _ _) (.cells #[.int .u8 v0, .string v1, .int .i64 v2, .int .i64 v3] 58))); clear hb4))
                    go_wp2_with (first | (go_at_call 31; refine (expand_width.calls 2 _ _ _ _ HV.out).mono ?_; rintro e w5 ⟨rfl, hd5⟩; have E5 := Aside0.mk (E4.out.below hd5.below); have c1 : w5.cell? ⟨b, 1, none⟩ = some (.bool true) := (blk_cell E5.out.sr.rd 1).trans rfl; clear hd5))
                    go_wp2_with (first | (go_at_call 26; refine (ibc _ _ I HI4.out _).mono ?_; rintro e w7 ⟨rfl, rfl⟩))
                    go_wp2_with (first | (go_at_call 33; refine (wbe E5.out 92 92 rfl HLB.out).mono ?_; rintro e w8 ⟨rfl, hs8⟩; have E8 := Aside0.mk hs8; clear hs8))
                    go_roundg k1
                    case measure => exact Nat.lt_succ_self _
                    case rel => exact ⟨l3 ++ [92], d :: u, A, ⟨HR3.out, HF.out.1, HF.out.2.1, HF.out.2.2.1, HF.out.2.2.2⟩, by rw [HZV.out], E8⟩
                  · have h3f : in3 d = false := Bool.eq_false_iff.2 h3
                    have f2 : decide (0 ≤ I) = false := hin.trans h3f
                    have f3 : (0 ≤ I) = False := eq_false (of_decide_eq_false f2)
                    by_cases h92 : d = 92
                    · have f4 : ((C == 92) : Bool) = true := hCe 92 h92
                      have f5 : ((C == 119) : Bool) = false := hCd 119 (by rw [h92]; decide)
                      obtain ⟨Z, hZ⟩ : ∃ Z, mkB u = Z := ⟨_, rfl⟩
                      have HZV := Aside0.mk hZ
                      have g3 : S2.extract 2 S2.size = Z := by rw [← hS2, ← hZ, extract_mkB, size_mkB, List.take_length]; rfl
                      have HR3 := Aside0.mk (show ex true (anL L) k1 (l3 ++ [d]) u A = R by rw [HRX.out, exTail, if_neg h34, if_neg (by rw [h3f, h92]; decide), if_pos (by rw [h92]; decide)])
                      have HF := Aside0.mk (show need A (u) < k1 ∧ (l3 ++ [d]).length + (u).length ≤ 8000 ∧ k1 ≤ n ∧ A.length ≤ 500 from ⟨HNT.out _ (by simp only [List.length_cons, List.length_nil]; omega), by simp only [List.length_append, List.length_cons, List.length_nil]; have := HX.out; simp only [List.length_cons, List.length_nil] at this; omega, by have := HQ.out; omega, by have := HQ.out; omega⟩)
                      rw [hS]
                      clear hS2 hc hr hp hlen hq hS hes hz hP hl3 hi H1 HWID h9 hsz hC hCd hCe hZ hI hin h34 h3 h3f h92
                      go_wp2_with (first | (go_at_call 26; refine (ibc _ _ i HI.out _).mono ?_; rintro e w2 ⟨rfl, rfl⟩))
                      go_wp2_with (first | (go_at_call 27; refine (wse HS.out P HPB.out).mono ?_; rintro e w3 ⟨rfl, hs3, _⟩; rw [HL3.out] at hs3; have E3 := Aside0.mk hs3; clear hs3))
                      go_wp2_with (first | (go_at_call 28; refine (HASK.out _).mono ?_; rintro e w4 ⟨v0, v1, v2, v3, rfl, hb4⟩; have E4 := Aside0.mk ((E3.out.below hb4).below (below_alloc (Below.refl _ _) (.cells #[.int .u8 v0, .string v1, .int .i64 v2, .int .i64 v3] 58))); clear hb4))
                      go_wp2_with (first | (go_at_call 31; refine (expand_width.calls 2 _ _ _ _ HV.out).mono ?_; rintro e w5 ⟨rfl, hd5⟩; have E5 := Aside0.mk (E4.out.below hd5.below); have c1 : w5.cell? ⟨b, 1, none⟩ = some (.bool true) := (blk_cell E5.out.sr.rd 1).trans rfl; clear hd5))
                      go_wp2_with (first | (go_at_call 26; refine (ibc _ _ I HI4.out _).mono ?_; rintro e w7 ⟨rfl, rfl⟩))
                      go_wp2_with (first | (go_at_call 33; refine (wbe E5.out d C HC.out HLB.out).mono ?_; rintro e w8 ⟨rfl, hs8⟩; have E8 := Aside0.mk hs8; clear hs8))
                      go_roundg k1
                      case measure => exact Nat.lt_succ_self _
                      case rel => exact ⟨l3 ++ [d], u, A, ⟨HR3.out, HF.out.1, HF.out.2.1, HF.out.2.2.1, HF.out.2.2.2⟩, by rw [HZV.out], E8⟩
                    · have f7 : ((C == 92) : Bool) = false := hCd 92 h92
                      by_cases h46 : d = 46
                      · have f4 : ((C == 46) : Bool) = true := hCe 46 h46
                        have f5 : ((C == 119) : Bool) = false := hCd 119 (by rw [h46]; decide)
                        have f6 : ((C == 92) : Bool) = false := hCd 92 h92
                        obtain ⟨Z, hZ⟩ : ∃ Z, mkB u = Z := ⟨_, rfl⟩
                        have HZV := Aside0.mk hZ
                        have g3 : S2.extract 2 S2.size = Z := by rw [← hS2, ← hZ, extract_mkB, size_mkB, List.take_length]; rfl
                        have HR3 := Aside0.mk (show ex true (anL L) k1 (l3 ++ [d]) u A = R by rw [HRX.out, exTail, if_neg h34, if_neg (by rw [h3f, h46]; decide), if_pos (by rw [h46]; decide)])
                        have HF := Aside0.mk (show need A (u) < k1 ∧ (l3 ++ [d]).length + (u).length ≤ 8000 ∧ k1 ≤ n ∧ A.length ≤ 500 from ⟨HNT.out _ (by simp only [List.length_cons, List.length_nil]; omega), by simp only [List.length_append, List.length_cons, List.length_nil]; have := HX.out; simp only [List.length_cons, List.length_nil] at this; omega, by have := HQ.out; omega, by have := HQ.out; omega⟩)
                        rw [hS]
                        clear hS2 hc hr hp hlen hq hS hes hz hP hl3 hi H1 HWID h9 hsz hC hCd hCe hZ hI hin h34 h3 h3f h46 h92
                        go_wp2_with (first | (go_at_call 26; refine (ibc _ _ i HI.out _).mono ?_; rintro e w2 ⟨rfl, rfl⟩))
                        go_wp2_with (first | (go_at_call 27; refine (wse HS.out P HPB.out).mono ?_; rintro e w3 ⟨rfl, hs3, _⟩; rw [HL3.out] at hs3; have E3 := Aside0.mk hs3; clear hs3))
                        go_wp2_with (first | (go_at_call 28; refine (HASK.out _).mono ?_; rintro e w4 ⟨v0, v1, v2, v3, rfl, hb4⟩; have E4 := Aside0.mk ((E3.out.below hb4).below (below_alloc (Below.refl _ _) (.cells #[.int .u8 v0, .string v1, .int .i64 v2, .int .i64 v3] 58))); clear hb4))
                        go_wp2_with (first | (go_at_call 31; refine (expand_width.calls 2 _ _ _ _ HV.out).mono ?_; rintro e w5 ⟨rfl, hd5⟩; have E5 := Aside0.mk (E4.out.below hd5.below); have c1 : w5.cell? ⟨b, 1, none⟩ = some (.bool true) := (blk_cell E5.out.sr.rd 1).trans rfl; clear hd5))
                        go_wp2_with (first | (go_at_call 26; refine (ibc _ _ I HI4.out _).mono ?_; rintro e w7 ⟨rfl, rfl⟩))
                        go_wp2_with (first | (go_at_call 33; refine (wbe E5.out d C HC.out HLB.out).mono ?_; rintro e w8 ⟨rfl, hs8⟩; have E8 := Aside0.mk hs8; clear hs8))
                        go_roundg k1
                        case measure => exact Nat.lt_succ_self _
                        case rel => exact ⟨l3 ++ [d], u, A, ⟨HR3.out, HF.out.1, HF.out.2.1, HF.out.2.2.1, HF.out.2.2.2⟩, by rw [HZV.out], E8⟩
                      · have f8 : ((C == 46) : Bool) = false := hCd 46 h46
                        cases h119 : (C == 119 : Bool) with
                        | true =>
                          obtain ⟨Z, hZ⟩ : ∃ Z, mkB u = Z := ⟨_, rfl⟩
                          have HZV := Aside0.mk hZ
                          have g3 : S2.extract 2 S2.size = Z := by rw [← hS2, ← hZ, extract_mkB, size_mkB, List.take_length]; rfl
                          obtain ⟨D2, hD⟩ : ∃ Z, mkB [92, d] = Z := ⟨_, rfl⟩
                          have g4 : S2.extract 0 2 = D2 := by rw [← hS2, ← hD, extract_mkB]; rfl
                          have HD2 := Aside0.mk (show l3.length + D2.size ≤ 1000000 ∧ l3 ++ D2.data.toList = l3 ++ [92, d] by rw [← hD, data_mkB, size_mkB]; exact ⟨by have := HX.out; simp only [List.length_cons, List.length_nil]; omega, rfl⟩)
                          have HR3 := Aside0.mk (show ex true (anL L) k1 (l3 ++ [92, d]) u A = R by rw [HRX.out, exTail, if_neg h34, if_neg (by rw [h3f, Bool.not_true, Bool.and_false]; decide), if_neg (by rw [beq_eq_false_iff_ne.2 h92, beq_eq_false_iff_ne.2 h46]; decide)])
                          have HF := Aside0.mk (show need A (u) < k1 ∧ (l3 ++ [92, d]).length + (u).length ≤ 8000 ∧ k1 ≤ n ∧ A.length ≤ 500 from ⟨HNT.out _ (by simp only [List.length_cons, List.length_nil]; omega), by simp only [List.length_append, List.length_cons, List.length_nil]; have := HX.out; simp only [List.length_cons, List.length_nil] at this; omega, by have := HQ.out; omega, by have := HQ.out; omega⟩)
                          rw [hS]
                          clear hS2 hc hr hp hlen hq hS hes hz hP hl3 hi H1 HWID h9 hsz hC hCd hCe hZ hD hI hin h34 h3 h3f h92 h46
                          go_wp2_with (first | (go_at_call 26; refine (ibc _ _ i HI.out _).mono ?_; rintro e w2 ⟨rfl, rfl⟩))
                          go_wp2_with (first | (go_at_call 27; refine (wse HS.out P HPB.out).mono ?_; rintro e w3 ⟨rfl, hs3, _⟩; rw [HL3.out] at hs3; have E3 := Aside0.mk hs3; clear hs3))
                          go_wp2_with (first | (go_at_call 28; refine (HASK.out _).mono ?_; rintro e w4 ⟨v0, v1, v2, v3, rfl, hb4⟩; have E4 := Aside0.mk ((E3.out.below hb4).below (below_alloc (Below.refl _ _) (.cells #[.int .u8 v0, .string v1, .int .i64 v2, .int .i64 v3] 58))); clear hb4))
                          go_wp2_with (first | (go_at_call 31; refine (expand_width.calls 2 _ _ _ _ HV.out).mono ?_; rintro e w5 ⟨rfl, hd5⟩; have E5 := Aside0.mk (E4.out.below hd5.below); have c1 : w5.cell? ⟨b, 1, none⟩ = some (.bool true) := (blk_cell E5.out.sr.rd 1).trans rfl; clear hd5))
                          go_wp2_with (first | (go_at_call 26; refine (ibc _ _ I HI4.out _).mono ?_; rintro e w7 ⟨rfl, rfl⟩))
                          go_wp2_with (first | (go_at_call 27; refine (wse E5.out D2 HD2.out.1).mono ?_; rintro e w8 ⟨rfl, hs8, _⟩; rw [HD2.out.2] at hs8; have E8 := Aside0.mk hs8; clear hs8))
                          go_roundg k1
                          case measure => exact Nat.lt_succ_self _
                          case rel => exact ⟨l3 ++ [92, d], u, A, ⟨HR3.out, HF.out.1, HF.out.2.1, HF.out.2.2.1, HF.out.2.2.2⟩, by rw [HZV.out], E8⟩
                        | false =>
                          obtain ⟨Z, hZ⟩ : ∃ Z, mkB u = Z := ⟨_, rfl⟩
                          have HZV := Aside0.mk hZ
                          have g3 : S2.extract 2 S2.size = Z := by rw [← hS2, ← hZ, extract_mkB, size_mkB, List.take_length]; rfl
                          obtain ⟨D2, hD⟩ : ∃ Z, mkB [92, d] = Z := ⟨_, rfl⟩
                          have g4 : S2.extract 0 2 = D2 := by rw [← hS2, ← hD, extract_mkB]; rfl
                          have HD2 := Aside0.mk (show l3.length + D2.size ≤ 1000000 ∧ l3 ++ D2.data.toList = l3 ++ [92, d] by rw [← hD, data_mkB, size_mkB]; exact ⟨by have := HX.out; simp only [List.length_cons, List.length_nil]; omega, rfl⟩)
                          have HR3 := Aside0.mk (show ex true (anL L) k1 (l3 ++ [92, d]) u A = R by rw [HRX.out, exTail, if_neg h34, if_neg (by rw [h3f, Bool.not_true, Bool.and_false]; decide), if_neg (by rw [beq_eq_false_iff_ne.2 h92, beq_eq_false_iff_ne.2 h46]; decide)])
                          have HF := Aside0.mk (show need A (u) < k1 ∧ (l3 ++ [92, d]).length + (u).length ≤ 8000 ∧ k1 ≤ n ∧ A.length ≤ 500 from ⟨HNT.out _ (by simp only [List.length_cons, List.length_nil]; omega), by simp only [List.length_append, List.length_cons, List.length_nil]; have := HX.out; simp only [List.length_cons, List.length_nil] at this; omega, by have := HQ.out; omega, by have := HQ.out; omega⟩)
                          rw [hS]
                          clear hS2 hc hr hp hlen hq hS hes hz hP hl3 hi H1 HWID h9 hsz hC hCd hCe hZ hD hI hin h34 h3 h3f h92 h46
                          go_wp2_with (first | (go_at_call 26; refine (ibc _ _ i HI.out _).mono ?_; rintro e w2 ⟨rfl, rfl⟩))
                          go_wp2_with (first | (go_at_call 27; refine (wse HS.out P HPB.out).mono ?_; rintro e w3 ⟨rfl, hs3, _⟩; rw [HL3.out] at hs3; have E3 := Aside0.mk hs3; clear hs3))
                          go_wp2_with (first | (go_at_call 28; refine (HASK.out _).mono ?_; rintro e w4 ⟨v0, v1, v2, v3, rfl, hb4⟩; have E4 := Aside0.mk ((E3.out.below hb4).below (below_alloc (Below.refl _ _) (.cells #[.int .u8 v0, .string v1, .int .i64 v2, .int .i64 v3] 58))); clear hb4))
                          go_wp2_with (first | (go_at_call 31; refine (expand_width.calls 2 _ _ _ _ HV.out).mono ?_; rintro e w5 ⟨rfl, hd5⟩; have E5 := Aside0.mk (E4.out.below hd5.below); have c1 : w5.cell? ⟨b, 1, none⟩ = some (.bool true) := (blk_cell E5.out.sr.rd 1).trans rfl; clear hd5))
                          go_wp2_with (first | (go_at_call 26; refine (ibc _ _ I HI4.out _).mono ?_; rintro e w7 ⟨rfl, rfl⟩))
                          go_wp2_with (first | (go_at_call 27; refine (wse E5.out D2 HD2.out.1).mono ?_; rintro e w8 ⟨rfl, hs8, _⟩; rw [HD2.out.2] at hs8; have E8 := Aside0.mk hs8; clear hs8))
                          go_roundg k1
                          case measure => exact Nat.lt_succ_self _
                          case rel => exact ⟨l3 ++ [92, d], u, A, ⟨HR3.out, HF.out.1, HF.out.2.1, HF.out.2.2.1, HF.out.2.2.2⟩, by rw [HZV.out], E8⟩
end Go.Proofs.Ytpflnhbhgcediaa.Ex4
