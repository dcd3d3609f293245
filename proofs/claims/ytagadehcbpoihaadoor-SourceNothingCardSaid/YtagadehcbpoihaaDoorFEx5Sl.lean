/- File and Macro of the fixed example; the example. -/
import Derived.Test.YtagadehcbpoihaaDoorFMacroSl
namespace Go.Proofs.YtagadehcbpoihaaDoor.Sane5
open Go.RowKit Go.Proofs.YtagadehcbpoihaaDoorW.PrintWords Go.Proofs.YtagadehcbpoihaaDoorW.PrintLast Go.Proofs.YtagadehcbpoihaaDoorW.PrintMore Go.Proofs.YtagadehcbpoihaaDoorN Go.Proofs.YtagadehcbpoihaaDoor.Str Go.Proofs.YtagadehcbpoihaaDoor.QSl Go.Proofs.YtagadehcbpoihaaDoor.FnVal
set_option linter.unusedVariables false
set_option linter.unusedSimpArgs false
theorem KL.of_kept {w w' : World} {sb : Nat} {cs : Array Value} {t : TypeId} (h : Kept w w' (fun k => k = sb)) (hs : w.heap[sb]? = some (.cells cs t (0, 0))) (ht : t ≠ 34) : KL w w' := fun k c hk => (h.2 k (blk_lt hk) (blk_ne hk hs (fun e => ht e.symm))).trans hk
set_option maxHeartbeats 4000000 in
set_option maxRecDepth 100000 in
theorem file_calls (sb B : Nat) (nm : ByteArray) (hn1 : nm.toList.isEmpty = false) (hn2 : nm.size ≤ 100) (l : List UInt8) (hl : l.length < 1000) (X Y : ByteArray) (hp : piecesL l = [X, Y]) (hX : X.size ≤ 100) (hY : Y.size ≤ 100) (w : World) (hs : w.heap[sb]? = some (.cells #[.slice none 0 0, .bool true] 56 (0, 0))) (hB : B ≤ w.heap.size) (hBs : B ≤ sb) :
    Calls Tryd.prog 18 #[.pointer (some ⟨sb, 0, none⟩), .string nm, .string (mkB l)] w fun e w' => e = .returned (.int .i64 0) ∧ ∃ gl cl, 2 ≤ cl ∧ Stk sb B [fr 1 nm (.slice (some ⟨gl, 0, none⟩) 2 cl) 0 (.slice none 0 0)] w' ∧ (Kd.raw 5).R 34 w' B (fun _ => True) (.slice (some ⟨gl, 0, none⟩) 2 cl) [ln X, ln Y] ∧ Below B w w' := by
  have HT := Aside0.mk (text2 l hl X Y hp hX hY w)
  have HN := Aside0.mk (fun W => named1 nm hn1 hn2 W)
  have HS := Aside0.mk hs
  have HB := Aside0.mk hB
  have HBS := Aside0.mk hBs
  obtain ⟨S, hS⟩ : ∃ S, mkB l = S := ⟨_, rfl⟩
  rw [hS] at HT ⊢
  clear hn1 hn2 hl hp hX hY hs hB hBs hS
  go_enter Tryd.func18, Tryd.ntmps18
  go_wp2_with (first | (go_at_call 38; refine (HT.out).mono ?_; rintro e w2 ⟨v2, rfl, hr2, hb2⟩; obtain ⟨gl, cl, rfl, hbg, hlt, hle, hC2, hty2, hc2⟩ := raw_at hr2 (by simp); have R2 := Aside0.mk hr2; have LE2 := Aside0.mk hle; have B2 := Aside0.mk hb2; have T2 := Aside0.mk hty2; have S2 := Aside0.mk (blk_below HS.out hb2); have N2 := Aside0.mk (fun W => none_calls sb (.slice none 0 0) W); clear hr2 hbg hlt hle hC2 hty2 hc2 hb2) | (go_at_call 31; refine (none_calls sb _ _ S2.out).mono ?_; rintro e w3 ⟨rfl, rfl⟩) | (go_at_call 32; refine (HN.out _).mono ?_; rintro e w4 ⟨rfl, rfl⟩) | (go_at_call 34; refine (push0 sb B 1 nm (.slice (some ⟨gl, 0, none⟩) 2 cl) 0 (.slice none 0 0) ⟨_, _, _, rfl⟩ ⟨_, _, _, rfl⟩ _ ⟨⟨_, S2.out, Kd.R_nil _ _ _ _ _⟩, Nat.le_trans HB.out B2.out.size, HBS.out⟩ S2.out).mono ?_; rintro e w5 ⟨rfl, hs5, hk5, hb5⟩; have S5 := Aside0.mk hs5; have K5 := Aside0.mk hk5; have B5 := Aside0.mk hb5; clear hs5 hk5 hb5))
  refine bodyPost_ret (results_tmp rfl _ _ _) rfl ?_
  exact ⟨rfl, gl, cl, LE2.out, S5.out, KL.rows (Kd.R_lower R2.out HB.out) (KL.of_kept K5.out S2.out (by decide)), (B2.out.mono HB.out).trans B5.out⟩
set_option maxHeartbeats 4000000 in
set_option maxRecDepth 100000 in
theorem macro_calls (sb B gm cm : Nat) (nm : ByteArray) (hn1 : nm.toList.isEmpty = false) (hn2 : nm.size ≤ 100) (x : ByteArray) (hx : x.size ≤ 100) (h10 : decide (0 ≤ Lib.indexByte x.data.toList 10) = false) (F1 : List Value) (kk : Int) (hk1 : F1[0]? = some (.int .i64 kk)) (hk3 : ¬ kk = 3) (w : World) (h : Stk sb B [F1] w) (hC : (Kd.raw 5).C w (some ⟨gm, 0, none⟩) 1 [ln x]) :
    Calls Tryd.prog 13 #[.pointer (some ⟨sb, 0, none⟩), .string nm, .slice (some ⟨gm, 0, none⟩) 1 cm, .slice none 0 0] w fun e w' => e = .returned (.int .i64 0) ∧ KL w w' ∧ Below B w w' ∧ ∃ gl cl, 1 ≤ cl ∧ Stk sb B [F1, fr 2 nm (.slice (some ⟨gl, 0, none⟩) 1 cl) 0 (.slice none 0 0)] w' ∧ (Kd.raw 5).R 34 w' B (fun _ => True) (.slice (some ⟨gl, 0, none⟩) 1 cl) [ln x] := by
  have HN := Aside0.mk (fun W => named1 nm hn1 hn2 W)
  have HG := Aside0.mk (good1 gm cm x hx h10 w hC)
  have HO := Aside0.mk (fun W hC => own1 ⟨gm, 0, none⟩ cm x W hC)
  have HP := Aside0.mk (fun a2 h2 W hW => push1 sb B 2 nm a2 0 (.slice none 0 0) h2 ⟨_, _, _, rfl⟩ F1 kk hk1 hk3 W hW)
  have H := Aside0.mk h
  have HC := Aside0.mk hC
  have HB := Aside0.mk h.hB
  obtain ⟨v0, hv0, hR0⟩ := h.st
  have HV := Aside0.mk hv0
  have HR0 := Aside0.mk hR0
  clear hn1 hn2 hx h10 hk1 hk3 h hC hv0 hR0
  go_enter Tryd.func13, Tryd.ntmps13
  go_wp2_with (first | (go_at_call 31; refine (none_calls sb _ _ HV.out).mono ?_; rintro e w3 ⟨rfl, rfl⟩) | (go_at_call 32; refine (HN.out _).mono ?_; rintro e w4 ⟨rfl, rfl⟩) | (go_at_call 33; refine (HG.out).mono ?_; rintro e w5 ⟨rfl, hb5⟩; have B5 := Aside0.mk hb5; clear hb5) | (go_at_call 35; refine (HO.out _ (Kd.C_below HC.out B5.out)).mono ?_; rintro e w6 ⟨v6, rfl, hr6, hb6⟩; obtain ⟨gl, cl, rfl, hbg, hlt, hle, hC6, hty6, hc6⟩ := raw_at hr6 (by simp); have R6 := Aside0.mk hr6; have LE6 := Aside0.mk hle; have B6 := Aside0.mk hb6; clear hr6 hbg hlt hle hC6 hty6 hc6 hb6) | (go_at_call 36; refine (clone36_nil _).mono ?_; rintro e w7 ⟨rfl, rfl⟩) | (go_at_call 34; refine (HP.out _ ⟨_, _, _, rfl⟩ _ ⟨⟨_, blk_below (blk_below HV.out B5.out) B6.out, Kd.R_below (Kd.R_below HR0.out B5.out) B6.out⟩, Nat.le_trans (Nat.le_trans HB.out B5.out.size) B6.out.size, H.out.hs⟩).mono ?_; rintro e w8 ⟨rfl, hs8, hk8, hb8⟩; have S8 := Aside0.mk hs8; have K8 := Aside0.mk hk8; have B8 := Aside0.mk hb8; clear hs8 hk8 hb8))
  refine bodyPost_ret (results_tmp rfl _ _ _) rfl ?_
  have v6 := blk_below (blk_below HV.out B5.out) B6.out
  have k8 := KL.of_kept K8.out v6 (by decide)
  exact ⟨rfl, ((KL.of_below B5.out).trans (KL.of_below B6.out)).trans k8, ((B5.out.mono HB.out).trans (B6.out.mono (Nat.le_trans HB.out B5.out.size))).trans B8.out, gl, cl, LE6.out, S8.out, KL.rows (Kd.R_lower R6.out (Nat.le_trans HB.out B5.out.size)) k8⟩
end Go.Proofs.YtagadehcbpoihaaDoor.Sane5
