/- The fixed example of chapter 5; the names that the print wants. -/
import Derived.Test.YtagadehcbpoihaaDoorFEx5Sl
namespace Go.Proofs.YtagadehcbpoihaaDoor.Sane5
open Go.RowKit Go.Proofs.YtagadehcbpoihaaDoorW.PrintWords Go.Proofs.YtagadehcbpoihaaDoorW.PrintLast Go.Proofs.YtagadehcbpoihaaDoorW.PrintMore Go.Proofs.YtagadehcbpoihaaDoorN Go.Proofs.YtagadehcbpoihaaDoor.Str Go.Proofs.YtagadehcbpoihaaDoor.QSl Go.Proofs.YtagadehcbpoihaaDoor.FnVal
set_option linter.unusedVariables false
set_option linter.unusedSimpArgs false
theorem Stk.below {sb B : Nat} {rows : List (List Value)} {w w1 : World} (h : Stk sb B rows w) (hb : Below w.heap.size w w1) : Stk sb B rows w1 := by
  obtain ⟨⟨v, hv, hr⟩, hB, hs⟩ := h
  exact ⟨⟨v, blk_below hv hb, Kd.R_below hr hb⟩, Nat.le_trans hB hb.size, hs⟩
theorem box_readL (W : World) (f : List Value) (hf : f.length = 5) (h1 : ∀ u ∈ f, u.oneCell' = true) : (Kd.raw 5).C (W.alloc (.cells f.toArray 34)) (some ⟨W.heap.size, 0, none⟩) 1 [f] := by
  refine ⟨rfl, by decide, fun _ => ⟨_, rfl, fun j p hj => ?_⟩⟩
  cases j with
  | succ j => simp at hj
  | zero =>
    obtain rfl : f = p := by simpa using hj
    refine ⟨f, hf, ⟨rfl, hf, h1⟩, fun i u hu => ?_⟩
    rw [add_at, Nat.zero_add, Nat.zero_mul, Nat.zero_add]
    rw [blk_cell (blk_new W (.cells f.toArray 34))]
    simpa using hu
theorem KL.al (w : World) (o : Obj) : KL w (w.alloc o) := KL.of_below (below_alloc (Below.refl _ _) _)
set_option maxHeartbeats 2000000 in
set_option maxRecDepth 100000 in
theorem new_calls (w : World) : Calls Tryd.prog 12 #[] w fun e w' => e = .returned (.pointer (some ⟨w.heap.size, 0, none⟩)) ∧ w' = w.alloc (.cells #[.slice none 0 0, .bool true] 56) := by
  go_enter Tryd.func12, Tryd.ntmps12
  go_wp2
  refine bodyPost_ret (results_tmp rfl _ _ _) rfl ?_
  exact ⟨rfl, rfl⟩
def xa : ByteArray := ⟨#[97]⟩
def xb : ByteArray := ⟨#[98]⟩
def xc : ByteArray := ⟨#[99]⟩
def nf : ByteArray := ⟨#[102]⟩
def nm5 : ByteArray := ⟨#[109]⟩
theorem nf_ne : nf.toList.isEmpty = false := by rw [Lib.toList_data]; rfl
theorem nm_ne : nm5.toList.isEmpty = false := by rw [Lib.toList_data]; rfl
theorem pieces_ab : piecesL [97, 10, 98, 10] = [xa, xb] := rfl
set_option maxHeartbeats 8000000 in
set_option maxRecDepth 100000 in
theorem sane_calls (w : World) : Calls Tryd.prog 8 #[] w fun e w' => e = .returned (.bool true) ∧ Below w.heap.size w w' := by
  have hu34 := Tryd.underlying34
  have hln : ∀ x, ln x = [.string x, .bool false, .int .i64 0, .int .i64 0, .slice none 0 0] := fun _ => rfl
  have HF := Aside0.mk (file_calls w.heap.size w.heap.size nf nf_ne (by decide) [97, 10, 98, 10] (by decide) xa xb pieces_ab (by decide) (by decide) (w.alloc (.cells #[.slice none 0 0, .bool true] 56)) (blk_new _ _) (below_alloc (Below.refl w.heap.size w) _).size (Nat.le_refl _))
  have BA := Aside0.mk (below_alloc (Below.refl w.heap.size w) (.cells #[.slice none 0 0, .bool true] 56))
  go_enter Tryd.func8, Tryd.ntmps8
  go_wp2_with (first | (go_at_call 12; refine (new_calls w).mono ?_; rintro e w1 ⟨rfl, rfl⟩))
  go_wp2_with (first | (go_at_call 18; refine (HF.out).mono ?_; rintro e w2 ⟨rfl, gl, cl, hcl, hs2, hr2, hb2⟩; have CL := Aside0.mk hcl; have S2 := Aside0.mk hs2; have R2 := Aside0.mk hr2; have B2 := Aside0.mk hb2; clear hcl hs2 hr2 hb2))
  have T2 := Aside0.mk (Kd.R_typed R2.out gl (by simp [Value.ownBlock]))
  have HN0 := Aside0.mk (next0 w.heap.size w.heap.size gl cl 2 1 nf (.slice none 0 0) ⟨_, _, _, rfl⟩ xa [ln xa, ln xb] rfl (by decide) (by decide) CL.out w2 S2.out (Kd.R_reads' R2.out).2.2 T2.out)
  go_wp2_with (first | (go_at_call 16; refine (HN0.out).mono ?_; rintro e w3 ⟨rfl, hs3, hk3, hb3⟩; have S3 := Aside0.mk hs3; have K3 := Aside0.mk hk3; have B3 := Aside0.mk hb3; clear hs3 hk3 hb3))
  have e1 : (w3.alloc (.cells (ln xa).toArray 34)).heap.size = w3.heap.size + 1 := by show (w3.heap.push _).size = _; rw [Array.size_push]
  have C5 := box_readL (w3.alloc (.cells (ln xa).toArray 34)) (ln xc) rfl (ln_one xc)
  rw [e1] at C5
  have HM := Aside0.mk (macro_calls w.heap.size w.heap.size (w3.heap.size + 1) 1 nm5 nm_ne (by decide) xc (by decide) (by decide) (fr 1 nf (.slice (some ⟨gl, 0, none⟩) 2 cl) 1 (.slice none 0 0)) 1 rfl (by decide) ((w3.alloc (.cells (ln xa).toArray 34)).alloc (.cells (ln xc).toArray 34)) ((S3.out.below (below_alloc (Below.refl _ _) _)).below (below_alloc (Below.refl _ _) _)) C5)
  have KA := Aside0.mk ((K3.out.trans (KL.al w3 (.cells (ln xa).toArray 34))).trans (KL.al _ (.cells (ln xc).toArray 34)))
  have Q5 := Aside0.mk (show ((w3.alloc (.cells (ln xa).toArray 34)).alloc (.cells (ln xc).toArray 34)).heap[w3.heap.size]? = some (.cells (ln xa).toArray 34 (0, 0)) from blk_alloc (blk_new _ _) _)
  have z5 : w.heap.size ≤ ((w3.alloc (.cells (ln xa).toArray 34)).alloc (.cells (ln xc).toArray 34)).heap.size := (((S3.out.below (below_alloc (Below.refl _ (w3)) (.cells (ln xa).toArray 34))).below (below_alloc (Below.refl _ _) (.cells (ln xc).toArray 34))).hB)
  have BB5 := Aside0.mk (show Below w.heap.size w ((w3.alloc (.cells (ln xa).toArray 34)).alloc (.cells (ln xc).toArray 34)) from ((((BA.out.trans B2.out).trans B3.out).trans ((below_alloc (Below.refl w3.heap.size w3) _).mono S3.out.hB)).trans ((below_alloc (Below.refl _ (w3.alloc (.cells (ln xa).toArray 34))) _).mono (S3.out.below (below_alloc (Below.refl _ _) _)).hB)))
  clear e1 C5 z5
  go_wp2_with (first | (go_at_call 13; refine (HM.out).mono ?_; rintro e w6 ⟨rfl, hk6, hb6, gl2, cl2, hcl2, hs6, hr6⟩; have K6 := Aside0.mk hk6; have B6 := Aside0.mk hb6; have CL2 := Aside0.mk hcl2; have S6 := Aside0.mk hs6; have R6 := Aside0.mk hr6; clear hk6 hb6 hcl2 hs6 hr6))
  have T6 := Aside0.mk (Kd.R_typed R6.out gl2 (by simp [Value.ownBlock]))
  have HN1 := Aside0.mk (next1 w.heap.size w.heap.size gl2 cl2 1 2 nm5 (.slice none 0 0) ⟨_, _, _, rfl⟩ xc [ln xc] rfl (by decide) (by decide) CL2.out (fr 1 nf (.slice (some ⟨gl, 0, none⟩) 2 cl) 1 (.slice none 0 0)) w6 S6.out (Kd.R_reads' R6.out).2.2 T6.out)
  go_wp2_with (first | (go_at_call 16; refine (HN1.out).mono ?_; rintro e w7 ⟨rfl, hs7, hk7, hb7⟩; have S7 := Aside0.mk hs7; have K7 := Aside0.mk hk7; have B7 := Aside0.mk hb7; clear hs7 hk7 hb7))
  have K8 := Aside0.mk ((((KA.out.trans K6.out).trans K7.out)).trans (KL.al w7 (.cells (ln xc).toArray 34)))
  have R8 := Aside0.mk (KL.rows R2.out K8.out)
  have T8 := Aside0.mk (Kd.R_typed R8.out gl (by simp [Value.ownBlock]))
  have S8 := Aside0.mk (S7.out.below (below_alloc (Below.refl _ _) (.cells (ln xc).toArray 34)))
  have HN2 := Aside0.mk (next2 w.heap.size w.heap.size gl cl 2 1 nf (.slice none 0 0) ⟨_, _, _, rfl⟩ xb [ln xa, ln xb] rfl (by decide) (by decide) CL.out 2 nm5 (some ⟨gl2, 0, none⟩) 1 cl2 1 none 0 0 (by decide) (w7.alloc (.cells (ln xc).toArray 34)) S8.out (Kd.R_reads' R8.out).2.2 T8.out)
  go_wp2_with (first | (go_at_call 16; refine (HN2.out).mono ?_; rintro e w9 ⟨rfl, hs9, hk9, hb9⟩; have S9 := Aside0.mk hs9; have K9 := Aside0.mk hk9; have B9 := Aside0.mk hb9; have q2 := K9.out _ _ (blk_alloc (K7.out _ _ (K6.out _ _ Q5.out)) (.cells (ln xc).toArray 34)); have q4 := K9.out _ _ (blk_new w7 (.cells (ln xc).toArray 34)); have g2 : ∀ o, (w9.alloc o).cell? ⟨w3.heap.size, 0, none⟩ = some (.string ⟨#[97]⟩) := fun o => (blk_cell (blk_alloc q2 o) 0).trans rfl; have g4 : ∀ o, (w9.alloc o).cell? ⟨w7.heap.size, 0, none⟩ = some (.string ⟨#[99]⟩) := fun o => (blk_cell (blk_alloc q4 o) 0).trans rfl; have hxb : xb = (⟨#[98]⟩ : ByteArray) := rfl; clear hs9 hk9 hb9 q2 q4))
  refine bodyPost_ret (results_tmp rfl _ _ _) rfl ?_
  have z6 := S6.out.hB
  have z7 := S7.out.hB
  have z9 := S9.out.hB
  exact ⟨rfl, ((((BB5.out.trans B6.out).trans B7.out).trans ((below_alloc (Below.refl w7.heap.size w7) _).mono z7)).trans B9.out).trans ((below_alloc (Below.refl w9.heap.size w9) _).mono z9)⟩
end Go.Proofs.YtagadehcbpoihaaDoor.Sane5
namespace Go.Proofs.YtagadehcbpoihaaDoor.QSl
open Go.RowKit
def frisketlaw05_sane.f : Option Bool := some true
theorem frisketlaw05_sane.calls (r : Bool) (w : World) (h : frisketlaw05_sane.f = some r) :
    Calls Tryd.prog 8 #[] w fun e w' => e = .returned (.bool r) ∧ Below w.heap.size w w' := by
  obtain rfl := Option.some.inj h
  exact Sane5.sane_calls w
end Go.Proofs.YtagadehcbpoihaaDoor.QSl
