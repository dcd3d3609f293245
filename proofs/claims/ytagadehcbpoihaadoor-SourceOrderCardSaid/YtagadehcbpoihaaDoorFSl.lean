/- The fixed example of chapter 5; the names that the print wants. -/
import Derived.Test.YtagadehcbpoihaaDoorFMacroSl
/- File and Macro of the fixed example; the example. -/
namespace Go.Proofs.YtagadehcbpoihaaDoor.Sane5
open Go.RowKit Go.Proofs.YtagadehcbpoihaaDoorW.PrintWords Go.Proofs.YtagadehcbpoihaaDoorW.PrintLast Go.Proofs.YtagadehcbpoihaaDoorW.PrintMore Go.Proofs.YtagadehcbpoihaaDoorN Go.Proofs.YtagadehcbpoihaaDoor.Str Go.Proofs.YtagadehcbpoihaaDoor.QSl Go.Proofs.YtagadehcbpoihaaDoor.FnVal
set_option linter.unusedVariables false
set_option linter.unusedSimpArgs false
theorem KL.of_kept {w w' : World} {sb : Nat} {cs : Array Value} {t : TypeId} (h : Kept w w' (fun k => k = sb)) (hs : w.heap[sb]? = some (.cells cs t (0, 0))) (ht : t ≠ 34) : KL w w' := fun k c hk => (h.2 k (blk_lt hk) (blk_ne hk hs (fun e => ht e.symm))).trans hk
set_option maxHeartbeats 4000000 in
set_option maxRecDepth 100000 in
theorem file_calls (sb B : Nat) (nm : ByteArray) (hn1 : nm.toList.isEmpty = false) (hn2 : nm.size ≤ 100) (l : List UInt8) (hl : l.length < 1000) (X Y : ByteArray) (hp : piecesL l = [X, Y]) (hX : X.size ≤ 100) (hY : Y.size ≤ 100) (w : World) (hs : w.heap[sb]? = some (.cells #[.slice none 0 0, .bool true] 56 (0, 0))) (hB : B ≤ w.heap.size) (hBs : B ≤ sb) :
    Calls Tryd.prog 18 #[.pointer (some ⟨sb, 0, none⟩), .string nm, .string (mkB l)] w fun e w' => e = .returned (.int .i64 0) ∧ ∃ gl cl, 2 ≤ cl ∧ Stk sb B [fr 1 nm (.slice (some ⟨gl, 0, none⟩) 2 cl) 0 (.slice none 0 0)] w' ∧ (Kd.raw 5).R 34 w' B (fun _ => True) (.slice (some ⟨gl, 0, none⟩) 2 cl) [ln X, ln Y] ∧ Below B w w' := by
  have HT := Aside0.mk (text2 l hl X Y hp hX hY w)
  have HN := Aside0.mk (fun W => named1 nm hn1 hn2 W)
  have HS := Aside0.mk hs
  have HB := Aside0.mk hB
  have HBS := Aside0.mk hBs
  obtain ⟨S, hS⟩ : ∃ S, mkB l = S := ⟨_, rfl⟩
  rw [hS] at HT ⊢
  clear hn1 hn2 hl hp hX hY hs hB hBs hS
  go_enter Tryd.func18, Tryd.ntmps18
  go_wp2_with (first | (go_at_call 38; refine (HT.out).mono ?_; rintro e w2 ⟨v2, rfl, hr2, hb2⟩; obtain ⟨gl, cl, rfl, hbg, hlt, hle, hC2, hty2, hc2⟩ := raw_at hr2 (by simp); have R2 := Aside0.mk hr2; have LE2 := Aside0.mk hle; have B2 := Aside0.mk hb2; have T2 := Aside0.mk hty2; have S2 := Aside0.mk (blk_below HS.out hb2); have N2 := Aside0.mk (fun W => none_calls sb (.slice none 0 0) W); clear hr2 hbg hlt hle hC2 hty2 hc2 hb2) | (go_at_call 31; refine (none_calls sb _ _ S2.out).mono ?_; rintro e w3 ⟨rfl, rfl⟩) | (go_at_call 32; refine (HN.out _).mono ?_; rintro e w4 ⟨rfl, rfl⟩) | (go_at_call 34; refine (push0 sb B 1 nm (.slice (some ⟨gl, 0, none⟩) 2 cl) 0 (.slice none 0 0) ⟨_, _, _, rfl⟩ ⟨_, _, _, rfl⟩ _ ⟨⟨_, S2.out, Kd.R_nil _ _ _ _ _⟩, Nat.le_trans HB.out B2.out.size, HBS.out⟩ S2.out).mono ?_; rintro e w5 ⟨rfl, hs5, hk5, hb5⟩; have S5 := Aside0.mk hs5; have K5 := Aside0.mk hk5; have B5 := Aside0.mk hb5; clear hs5 hk5 hb5))
  refine bodyPost_ret (results_tmp rfl _ _ _) rfl ?_
  exact ⟨rfl, gl, cl, LE2.out, S5.out, KL.rows (Kd.R_lower R2.out HB.out) (KL.of_kept K5.out S2.out (by decide)), (B2.out.mono HB.out).trans B5.out⟩
set_option maxHeartbeats 4000000 in
set_option maxRecDepth 100000 in
theorem macro_calls (sb B gm cm : Nat) (nm : ByteArray) (hn1 : nm.toList.isEmpty = false) (hn2 : nm.size ≤ 100) (x : ByteArray) (hx : x.size ≤ 100) (h10 : decide (0 ≤ Lib.indexByte x.data.toList 10) = false) (F1 : List Value) (kk : Int) (hk1 : F1[0]? = some (.int .i64 kk)) (hk3 : ¬ kk = 3) (w : World) (h : Stk sb B [F1] w) (hC : (Kd.raw 5).C w (some ⟨gm, 0, none⟩) 1 [ln x]) :
    Calls Tryd.prog 13 #[.pointer (some ⟨sb, 0, none⟩), .string nm, .slice (some ⟨gm, 0, none⟩) 1 cm, .slice none 0 0] w fun e w' => e = .returned (.int .i64 0) ∧ KL w w' ∧ Below B w w' ∧ ∃ gl cl, 1 ≤ cl ∧ Stk sb B [F1, fr 2 nm (.slice (some ⟨gl, 0, none⟩) 1 cl) 0 (.slice none 0 0)] w' ∧ (Kd.raw 5).R 34 w' B (fun _ => True) (.slice (some ⟨gl, 0, none⟩) 1 cl) [ln x] := by
  have HN := Aside0.mk (fun W => named1 nm hn1 hn2 W)
  have HG := Aside0.mk (good1 gm cm x hx h10 w hC)
  have HO := Aside0.mk (fun W hC => own1 ⟨gm, 0, none⟩ cm x W hC)
  have HP := Aside0.mk (fun a2 h2 W hW => push1 sb B 2 nm a2 0 (.slice none 0 0) h2 ⟨_, _, _, rfl⟩ F1 kk hk1 hk3 W hW)
  have H := Aside0.mk h
  have HC := Aside0.mk hC
  have HB := Aside0.mk h.hB
  obtain ⟨v0, hv0, hR0⟩ := h.st
  have HV := Aside0.mk hv0
  have HR0 := Aside0.mk hR0
  clear hn1 hn2 hx h10 hk1 hk3 h hC hv0 hR0
  go_enter Tryd.func13, Tryd.ntmps13
  go_wp2_with (first | (go_at_call 31; refine (none_calls sb _ _ HV.out).mono ?_; rintro e w3 ⟨rfl, rfl⟩) | (go_at_call 32; refine (HN.out _).mono ?_; rintro e w4 ⟨rfl, rfl⟩) | (go_at_call 33; refine (HG.out).mono ?_; rintro e w5 ⟨rfl, hb5⟩; have B5 := Aside0.mk hb5; clear hb5) | (go_at_call 35; refine (HO.out _ (Kd.C_below HC.out B5.out)).mono ?_; rintro e w6 ⟨v6, rfl, hr6, hb6⟩; obtain ⟨gl, cl, rfl, hbg, hlt, hle, hC6, hty6, hc6⟩ := raw_at hr6 (by simp); have R6 := Aside0.mk hr6; have LE6 := Aside0.mk hle; have B6 := Aside0.mk hb6; clear hr6 hbg hlt hle hC6 hty6 hc6 hb6) | (go_at_call 36; refine (clone36_nil _).mono ?_; rintro e w7 ⟨rfl, rfl⟩) | (go_at_call 34; refine (HP.out _ ⟨_, _, _, rfl⟩ _ ⟨⟨_, blk_below (blk_below HV.out B5.out) B6.out, Kd.R_below (Kd.R_below HR0.out B5.out) B6.out⟩, Nat.le_trans (Nat.le_trans HB.out B5.out.size) B6.out.size, H.out.hs⟩).mono ?_; rintro e w8 ⟨rfl, hs8, hk8, hb8⟩; have S8 := Aside0.mk hs8; have K8 := Aside0.mk hk8; have B8 := Aside0.mk hb8; clear hs8 hk8 hb8))
  refine bodyPost_ret (results_tmp rfl _ _ _) rfl ?_
  have v6 := blk_below (blk_below HV.out B5.out) B6.out
  have k8 := KL.of_kept K8.out v6 (by decide)
  exact ⟨rfl, ((KL.of_below B5.out).trans (KL.of_below B6.out)).trans k8, ((B5.out.mono HB.out).trans (B6.out.mono (Nat.le_trans HB.out B5.out.size))).trans B8.out, gl, cl, LE6.out, S8.out, KL.rows (Kd.R_lower R6.out (Nat.le_trans HB.out B5.out.size)) k8⟩
end Go.Proofs.YtagadehcbpoihaaDoor.Sane5

namespace Go.Proofs.YtagadehcbpoihaaDoor.Sane5
open Go.RowKit Go.Proofs.YtagadehcbpoihaaDoorW.PrintWords Go.Proofs.YtagadehcbpoihaaDoorW.PrintLast Go.Proofs.YtagadehcbpoihaaDoorW.PrintMore Go.Proofs.YtagadehcbpoihaaDoorN Go.Proofs.YtagadehcbpoihaaDoor.Str Go.Proofs.YtagadehcbpoihaaDoor.QSl Go.Proofs.YtagadehcbpoihaaDoor.FnVal
set_option linter.unusedVariables false
set_option linter.unusedSimpArgs false
theorem Stk.below {sb B : Nat} {rows : List (List Value)} {w w1 : World} (h : Stk sb B rows w) (hb : Below w.heap.size w w1) : Stk sb B rows w1 := by
  obtain ⟨⟨v, hv, hr⟩, hB, hs⟩ := h
  exact ⟨⟨v, blk_below hv hb, Kd.R_below hr hb⟩, Nat.le_trans hB hb.size, hs⟩
theorem box_readL (W : World) (f : List Value) (hf : f.length = 5) (h1 : ∀ u ∈ f, u.oneCell' = true) : (Kd.raw 5).C (W.alloc (.cells f.toArray 34)) (some ⟨W.heap.size, 0, none⟩) 1 [f] := by
  refine ⟨rfl, by decide, fun _ => ⟨_, rfl, fun j p hj => ?_⟩⟩
  cases j with
  | succ j => simp at hj
  | zero =>
    obtain rfl : f = p := by simpa using hj
    refine ⟨f, hf, ⟨rfl, hf, h1⟩, fun i u hu => ?_⟩
    rw [add_at, Nat.zero_add, Nat.zero_mul, Nat.zero_add]
    rw [blk_cell (blk_new W (.cells f.toArray 34))]
    simpa using hu
theorem KL.al (w : World) (o : Obj) : KL w (w.alloc o) := KL.of_below (below_alloc (Below.refl _ _) _)
set_option maxHeartbeats 2000000 in
set_option maxRecDepth 100000 in
theorem new_calls (w : World) : Calls Tryd.prog 12 #[] w fun e w' => e = .returned (.pointer (some ⟨w.heap.size, 0, none⟩)) ∧ w' = w.alloc (.cells #[.slice none 0 0, .bool true] 56) := by
  go_enter Tryd.func12, Tryd.ntmps12
  go_wp2
  refine bodyPost_ret (results_tmp rfl _ _ _) rfl ?_
  exact ⟨rfl, rfl⟩
def xa : ByteArray := ⟨#[97]⟩
def xb : ByteArray := ⟨#[98]⟩
def xc : ByteArray := ⟨#[99]⟩
def nf : ByteArray := ⟨#[102]⟩
def nm5 : ByteArray := ⟨#[109]⟩
theorem nf_ne : nf.toList.isEmpty = false := by rw [Lib.toList_data]; rfl
theorem nm_ne : nm5.toList.isEmpty = false := by rw [Lib.toList_data]; rfl
theorem pieces_ab : piecesL [97, 10, 98, 10] = [xa, xb] := rfl
set_option maxHeartbeats 8000000 in
set_option maxRecDepth 100000 in
theorem sane_calls (w : World) : Calls Tryd.prog 8 #[] w fun e w' => e = .returned (.bool true) ∧ Below w.heap.size w w' := by
  have hu34 := Tryd.underlying34
  have hln : ∀ x, ln x = [.string x, .bool false, .int .i64 0, .int .i64 0, .slice none 0 0] := fun _ => rfl
  have HF := Aside0.mk (file_calls w.heap.size w.heap.size nf nf_ne (by decide) [97, 10, 98, 10] (by decide) xa xb pieces_ab (by decide) (by decide) (w.alloc (.cells #[.slice none 0 0, .bool true] 56)) (blk_new _ _) (below_alloc (Below.refl w.heap.size w) _).size (Nat.le_refl _))
  have BA := Aside0.mk (below_alloc (Below.refl w.heap.size w) (.cells #[.slice none 0 0, .bool true] 56))
  go_enter Tryd.func8, Tryd.ntmps8
  go_wp2_with (first | (go_at_call 12; refine (new_calls w).mono ?_; rintro e w1 ⟨rfl, rfl⟩))
  go_wp2_with (first | (go_at_call 18; refine (HF.out).mono ?_; rintro e w2 ⟨rfl, gl, cl, hcl, hs2, hr2, hb2⟩; have CL := Aside0.mk hcl; have S2 := Aside0.mk hs2; have R2 := Aside0.mk hr2; have B2 := Aside0.mk hb2; clear hcl hs2 hr2 hb2))
  have T2 := Aside0.mk (Kd.R_typed R2.out gl (by simp [Value.ownBlock]))
  have HN0 := Aside0.mk (next0 w.heap.size w.heap.size gl cl 2 1 nf (.slice none 0 0) ⟨_, _, _, rfl⟩ xa [ln xa, ln xb] rfl (by decide) (by decide) CL.out w2 S2.out (Kd.R_reads' R2.out).2.2 T2.out)
  go_wp2_with (first | (go_at_call 16; refine (HN0.out).mono ?_; rintro e w3 ⟨rfl, hs3, hk3, hb3⟩; have S3 := Aside0.mk hs3; have K3 := Aside0.mk hk3; have B3 := Aside0.mk hb3; clear hs3 hk3 hb3))
  have e1 : (w3.alloc (.cells (ln xa).toArray 34)).heap.size = w3.heap.size + 1 := by show (w3.heap.push _).size = _; rw [Array.size_push]
  have C5 := box_readL (w3.alloc (.cells (ln xa).toArray 34)) (ln xc) rfl (ln_one xc)
  rw [e1] at C5
  have HM := Aside0.mk (macro_calls w.heap.size w.heap.size (w3.heap.size + 1) 1 nm5 nm_ne (by decide) xc (by decide) (by decide) (fr 1 nf (.slice (some ⟨gl, 0, none⟩) 2 cl) 1 (.slice none 0 0)) 1 rfl (by decide) ((w3.alloc (.cells (ln xa).toArray 34)).alloc (.cells (ln xc).toArray 34)) ((S3.out.below (below_alloc (Below.refl _ _) _)).below (below_alloc (Below.refl _ _) _)) C5)
  have KA := Aside0.mk ((K3.out.trans (KL.al w3 (.cells (ln xa).toArray 34))).trans (KL.al _ (.cells (ln xc).toArray 34)))
  have Q5 := Aside0.mk (show ((w3.alloc (.cells (ln xa).toArray 34)).alloc (.cells (ln xc).toArray 34)).heap[w3.heap.size]? = some (.cells (ln xa).toArray 34 (0, 0)) from blk_alloc (blk_new _ _) _)
  have z5 : w.heap.size ≤ ((w3.alloc (.cells (ln xa).toArray 34)).alloc (.cells (ln xc).toArray 34)).heap.size := (((S3.out.below (below_alloc (Below.refl _ (w3)) (.cells (ln xa).toArray 34))).below (below_alloc (Below.refl _ _) (.cells (ln xc).toArray 34))).hB)
  have BB5 := Aside0.mk (show Below w.heap.size w ((w3.alloc (.cells (ln xa).toArray 34)).alloc (.cells (ln xc).toArray 34)) from ((((BA.out.trans B2.out).trans B3.out).trans ((below_alloc (Below.refl w3.heap.size w3) _).mono S3.out.hB)).trans ((below_alloc (Below.refl _ (w3.alloc (.cells (ln xa).toArray 34))) _).mono (S3.out.below (below_alloc (Below.refl _ _) _)).hB)))
  clear e1 C5 z5
  go_wp2_with (first | (go_at_call 13; refine (HM.out).mono ?_; rintro e w6 ⟨rfl, hk6, hb6, gl2, cl2, hcl2, hs6, hr6⟩; have K6 := Aside0.mk hk6; have B6 := Aside0.mk hb6; have CL2 := Aside0.mk hcl2; have S6 := Aside0.mk hs6; have R6 := Aside0.mk hr6; clear hk6 hb6 hcl2 hs6 hr6))
  have T6 := Aside0.mk (Kd.R_typed R6.out gl2 (by simp [Value.ownBlock]))
  have HN1 := Aside0.mk (next1 w.heap.size w.heap.size gl2 cl2 1 2 nm5 (.slice none 0 0) ⟨_, _, _, rfl⟩ xc [ln xc] rfl (by decide) (by decide) CL2.out (fr 1 nf (.slice (some ⟨gl, 0, none⟩) 2 cl) 1 (.slice none 0 0)) w6 S6.out (Kd.R_reads' R6.out).2.2 T6.out)
  go_wp2_with (first | (go_at_call 16; refine (HN1.out).mono ?_; rintro e w7 ⟨rfl, hs7, hk7, hb7⟩; have S7 := Aside0.mk hs7; have K7 := Aside0.mk hk7; have B7 := Aside0.mk hb7; clear hs7 hk7 hb7))
  have K8 := Aside0.mk ((((KA.out.trans K6.out).trans K7.out)).trans (KL.al w7 (.cells (ln xc).toArray 34)))
  have R8 := Aside0.mk (KL.rows R2.out K8.out)
  have T8 := Aside0.mk (Kd.R_typed R8.out gl (by simp [Value.ownBlock]))
  have S8 := Aside0.mk (S7.out.below (below_alloc (Below.refl _ _) (.cells (ln xc).toArray 34)))
  have HN2 := Aside0.mk (next2 w.heap.size w.heap.size gl cl 2 1 nf (.slice none 0 0) ⟨_, _, _, rfl⟩ xb [ln xa, ln xb] rfl (by decide) (by decide) CL.out 2 nm5 (some ⟨gl2, 0, none⟩) 1 cl2 1 none 0 0 (by decide) (w7.alloc (.cells (ln xc).toArray 34)) S8.out (Kd.R_reads' R8.out).2.2 T8.out)
  go_wp2_with (first | (go_at_call 16; refine (HN2.out).mono ?_; rintro e w9 ⟨rfl, hs9, hk9, hb9⟩; have S9 := Aside0.mk hs9; have K9 := Aside0.mk hk9; have B9 := Aside0.mk hb9; have q2 := K9.out _ _ (blk_alloc (K7.out _ _ (K6.out _ _ Q5.out)) (.cells (ln xc).toArray 34)); have q4 := K9.out _ _ (blk_new w7 (.cells (ln xc).toArray 34)); have g2 : ∀ o, (w9.alloc o).cell? ⟨w3.heap.size, 0, none⟩ = some (.string ⟨#[97]⟩) := fun o => (blk_cell (blk_alloc q2 o) 0).trans rfl; have g4 : ∀ o, (w9.alloc o).cell? ⟨w7.heap.size, 0, none⟩ = some (.string ⟨#[99]⟩) := fun o => (blk_cell (blk_alloc q4 o) 0).trans rfl; have hxb : xb = (⟨#[98]⟩ : ByteArray) := rfl; clear hs9 hk9 hb9 q2 q4))
  refine bodyPost_ret (results_tmp rfl _ _ _) rfl ?_
  have z6 := S6.out.hB
  have z7 := S7.out.hB
  have z9 := S9.out.hB
  exact ⟨rfl, ((((BB5.out.trans B6.out).trans B7.out).trans ((below_alloc (Below.refl w7.heap.size w7) _).mono z7)).trans B9.out).trans ((below_alloc (Below.refl w9.heap.size w9) _).mono z9)⟩
end Go.Proofs.YtagadehcbpoihaaDoor.Sane5
namespace Go.Proofs.YtagadehcbpoihaaDoor.QSl
open Go.RowKit
def frisketlaw05_sane.f : Option Bool := some true
theorem frisketlaw05_sane.calls (r : Bool) (w : World) (h : frisketlaw05_sane.f = some r) :
    Calls Tryd.prog 8 #[] w fun e w' => e = .returned (.bool r) ∧ Below w.heap.size w w' := by
  obtain rfl := Option.some.inj h
  exact Sane5.sane_calls w
end Go.Proofs.YtagadehcbpoihaaDoor.QSl
