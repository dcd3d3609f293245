/- Macro, Wait and Depth, of any frames; the law SourceDeep. -/
import Derived.Test.YtagadehcbpoihaaDoorFNextNSl
import Derived.Test.YtagadehcbpoihaaDoorFSl
namespace Go.Proofs.YtagadehcbpoihaaDoor.Sane5
open Go.RowKit Go.Proofs.YtagadehcbpoihaaDoorW.PrintWords Go.Proofs.YtagadehcbpoihaaDoorW.PrintLast Go.Proofs.YtagadehcbpoihaaDoorW.PrintMore Go.Proofs.YtagadehcbpoihaaDoorN Go.Proofs.YtagadehcbpoihaaDoor.Str Go.Proofs.YtagadehcbpoihaaDoor.QSl Go.Proofs.YtagadehcbpoihaaDoor.FnVal
set_option linter.unusedVariables false
set_option linter.unusedSimpArgs false
/-- What Macro and Wait leave. -/
def PushT (sb B : Nat) (fs : List Fm) (k : Int) (nm x : ByteArray) (e : Ending) (w w' : World) : Prop :=
  (KX [56] w w' ∧ Below B w w') ∧ ((50 ≤ tn fs fs.length ∧ e = .returned (.int .i64 2) ∧ Stk sb B (fs.map Fm.row) w') ∨ (tn fs fs.length < 50 ∧ e = .returned (.int .i64 0) ∧ ∃ gl cl, 1 ≤ cl ∧ Stk sb B ((fs.take (tn fs fs.length)).map Fm.row ++ [(Fm.mk k nm (some ⟨gl, 0, none⟩) 1 cl 0 none 0 0).row]) w' ∧ (Kd.raw 5).R 34 w' B (fun _ => True) (.slice (some ⟨gl, 0, none⟩) 1 cl) [ln x]))
set_option maxHeartbeats 4000000 in
set_option maxRecDepth 100000 in
theorem macro_any (sb B gm cm : Nat) (nm : ByteArray) (hn1 : nm.toList.isEmpty = false) (hn2 : nm.size ≤ 100) (x : ByteArray) (hx : x.size ≤ 100) (h10 : decide (0 ≤ Lib.indexByte x.data.toList 10) = false) (fs : List Fm) (hsz : fs.length ≤ 900) (w : World) (h : Stk sb B (fs.map Fm.row) w) (hC : (Kd.raw 5).C w (some ⟨gm, 0, none⟩) 1 [ln x]) :
    Calls Tryd.prog 13 #[.pointer (some ⟨sb, 0, none⟩), .string nm, .slice (some ⟨gm, 0, none⟩) 1 cm, .slice none 0 0] w fun e w' => PushT sb B fs 2 nm x e w w' := by
  have HN := Aside0.mk (fun W => named1 nm hn1 hn2 W)
  have HG := Aside0.mk (good1 gm cm x hx h10 w hC)
  have HO := Aside0.mk (fun W hC => own1 ⟨gm, 0, none⟩ cm x W hC)
  have HP := Aside0.mk (fun gl cl W hW => push_any sb B ⟨2, nm, some ⟨gl, 0, none⟩, 1, cl, 0, none, 0, 0⟩ fs hsz W hW)
  have H := Aside0.mk h
  have HC := Aside0.mk hC
  have HB := Aside0.mk h.hB
  obtain ⟨v0, hv0, hR0⟩ := h.st
  have HV := Aside0.mk hv0
  have HR0 := Aside0.mk hR0
  clear hn1 hn2 hx h10 h hC hv0 hR0 hsz
  go_enter Tryd.func13, Tryd.ntmps13
  go_wp2_with (first | (go_at_call 31; refine (none_calls sb _ _ HV.out).mono ?_; rintro e w3 ⟨rfl, rfl⟩) | (go_at_call 32; refine (HN.out _).mono ?_; rintro e w4 ⟨rfl, rfl⟩) | (go_at_call 33; refine (HG.out).mono ?_; rintro e w5 ⟨rfl, hb5⟩; have B5 := Aside0.mk hb5; clear hb5) | (go_at_call 35; refine (HO.out _ (Kd.C_below HC.out B5.out)).mono ?_; rintro e w6 ⟨v6, rfl, hr6, hb6⟩; obtain ⟨gl, cl, rfl, hbg, hlt, hle, hC6, hty6, hc6⟩ := raw_at hr6 (by simp); have R6 := Aside0.mk hr6; have LE6 := Aside0.mk hle; have B6 := Aside0.mk hb6; clear hr6 hbg hlt hle hC6 hty6 hc6 hb6) | (go_at_call 36; refine (clone36_nil _).mono ?_; rintro e w7 ⟨rfl, rfl⟩) | (go_at_call 34; refine (HP.out gl cl _ ⟨⟨_, blk_below (blk_below HV.out B5.out) B6.out, Kd.R_below (Kd.R_below HR0.out B5.out) B6.out⟩, Nat.le_trans (Nat.le_trans HB.out B5.out.size) B6.out.size, H.out.hs⟩).mono ?_; rintro e w8 ⟨he8, hk8, hb8⟩; have E8 := Aside0.mk he8; have K8 := Aside0.mk hk8; have B8 := Aside0.mk hb8; obtain ⟨e8, he8b⟩ : ∃ v, e = .returned (.int .i64 v) := (by rcases he8 with ⟨_, h, _⟩ | ⟨_, h, _⟩ <;> exact ⟨_, h⟩); subst he8b; clear he8 hk8 hb8))
  refine bodyPost_ret (results_tmp rfl _ _ _) rfl ?_
  have v6 := blk_below (blk_below HV.out B5.out) B6.out
  have k8 : KX [56] _ w8 := KX.of_kept K8.out v6 (by simp)
  refine ⟨⟨((KX.of_below B5.out).trans (KX.of_below B6.out)).trans k8, ((B5.out.mono HB.out).trans (B6.out.mono (Nat.le_trans HB.out B5.out.size))).trans B8.out⟩, ?_⟩
  rcases E8.out with ⟨h1, h2, h3⟩ | ⟨h1, h2, h3⟩
  · exact Or.inl ⟨h1, h2, h3⟩
  · exact Or.inr ⟨h1, h2, gl, cl, LE6.out, h3, KL.rows (Kd.R_lower R6.out (Nat.le_trans HB.out B5.out.size)) (KX.KL k8 (by decide))⟩
set_option maxHeartbeats 4000000 in
set_option maxRecDepth 100000 in
theorem wait_any (sb B gm cm : Nat) (x : ByteArray) (hx : x.size ≤ 100) (h10 : decide (0 ≤ Lib.indexByte x.data.toList 10) = false) (fs : List Fm) (hsz : fs.length ≤ 900) (w : World) (h : Stk sb B (fs.map Fm.row) w) (hC : (Kd.raw 5).C w (some ⟨gm, 0, none⟩) 1 [ln x]) :
    Calls Tryd.prog 15 #[.pointer (some ⟨sb, 0, none⟩), .slice (some ⟨gm, 0, none⟩) 1 cm] w fun e w' => PushT sb B fs 3 ⟨#[]⟩ x e w w' := by
  have HG := Aside0.mk (good1 gm cm x hx h10 w hC)
  have HO := Aside0.mk (fun W hC => own1 ⟨gm, 0, none⟩ cm x W hC)
  have HP := Aside0.mk (fun gl cl W hW => push_any sb B ⟨3, ⟨#[]⟩, some ⟨gl, 0, none⟩, 1, cl, 0, none, 0, 0⟩ fs hsz W hW)
  have H := Aside0.mk h
  have HC := Aside0.mk hC
  have HB := Aside0.mk h.hB
  obtain ⟨v0, hv0, hR0⟩ := h.st
  have HV := Aside0.mk hv0
  have HR0 := Aside0.mk hR0
  clear hx h10 h hC hv0 hR0 hsz
  go_enter Tryd.func15, Tryd.ntmps15
  go_wp2_with (first | (go_at_call 31; refine (none_calls sb _ _ HV.out).mono ?_; rintro e w3 ⟨rfl, rfl⟩) | (go_at_call 33; refine (HG.out).mono ?_; rintro e w5 ⟨rfl, hb5⟩; have B5 := Aside0.mk hb5; clear hb5) | (go_at_call 35; refine (HO.out _ (Kd.C_below HC.out B5.out)).mono ?_; rintro e w6 ⟨v6, rfl, hr6, hb6⟩; obtain ⟨gl, cl, rfl, hbg, hlt, hle, hC6, hty6, hc6⟩ := raw_at hr6 (by simp); have R6 := Aside0.mk hr6; have LE6 := Aside0.mk hle; have B6 := Aside0.mk hb6; clear hr6 hbg hlt hle hC6 hty6 hc6 hb6) | (go_at_call 34; refine (HP.out gl cl _ ⟨⟨_, blk_below (blk_below HV.out B5.out) B6.out, Kd.R_below (Kd.R_below HR0.out B5.out) B6.out⟩, Nat.le_trans (Nat.le_trans HB.out B5.out.size) B6.out.size, H.out.hs⟩).mono ?_; rintro e w8 ⟨he8, hk8, hb8⟩; have E8 := Aside0.mk he8; have K8 := Aside0.mk hk8; have B8 := Aside0.mk hb8; obtain ⟨e8, he8b⟩ : ∃ v, e = .returned (.int .i64 v) := (by rcases he8 with ⟨_, h, _⟩ | ⟨_, h, _⟩ <;> exact ⟨_, h⟩); subst he8b; clear he8 hk8 hb8))
  refine bodyPost_ret (results_tmp rfl _ _ _) rfl ?_
  have v6 := blk_below (blk_below HV.out B5.out) B6.out
  have k8 : KX [56] _ w8 := KX.of_kept K8.out v6 (by simp)
  refine ⟨⟨((KX.of_below B5.out).trans (KX.of_below B6.out)).trans k8, ((B5.out.mono HB.out).trans (B6.out.mono (Nat.le_trans HB.out B5.out.size))).trans B8.out⟩, ?_⟩
  rcases E8.out with ⟨h1, h2, h3⟩ | ⟨h1, h2, h3⟩
  · exact Or.inl ⟨h1, h2, h3⟩
  · exact Or.inr ⟨h1, h2, gl, cl, LE6.out, h3, KL.rows (Kd.R_lower R6.out (Nat.le_trans HB.out B5.out.size)) (KX.KL k8 (by decide))⟩
set_option maxHeartbeats 2000000 in
set_option maxRecDepth 100000 in
theorem depth_any (sb B : Nat) (fs : List Fm) (w : World) (h : Stk sb B (fs.map Fm.row) w) :
    Calls Tryd.prog 14 #[.pointer (some ⟨sb, 0, none⟩)] w fun e w' => e = .returned (.int .i64 (fs.length : Int)) ∧ w' = w := by
  obtain ⟨gf, cf, A, hcel, _, _⟩ := Cel.of h
  have HN := Aside0.mk (none_calls sb _ _ hcel.hV)
  have s5 : w.cell? ⟨sb, 0, none⟩ = some (.slice A fs.length cf) := (blk_cell hcel.hV 0).trans rfl
  clear hcel h
  go_enter Tryd.func14, Tryd.ntmps14
  go_wp2_with (first | (go_at_call 31; refine HN.out.mono ?_; rintro e w3 ⟨rfl, rfl⟩))
  refine bodyPost_ret (results_tmp rfl _ _ _) rfl ?_
  exact ⟨rfl, rfl⟩
end Go.Proofs.YtagadehcbpoihaaDoor.Sane5
