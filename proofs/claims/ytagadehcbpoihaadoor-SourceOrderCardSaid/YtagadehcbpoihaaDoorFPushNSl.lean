/- push, onto any frames. -/
import Derived.Test.YtagadehcbpoihaaDoorFNextSl
namespace Go.Proofs.YtagadehcbpoihaaDoor.Sane5
open Go.RowKit Go.Proofs.YtagadehcbpoihaaDoorW.PrintWords Go.Proofs.YtagadehcbpoihaaDoorW.PrintLast Go.Proofs.YtagadehcbpoihaaDoorW.PrintMore Go.Proofs.YtagadehcbpoihaaDoorN Go.Proofs.YtagadehcbpoihaaDoor.Str Go.Proofs.YtagadehcbpoihaaDoor.QSl
set_option linter.unusedVariables false
set_option linter.unusedSimpArgs false
/-- A frame. -/
structure Fm where
  k : Int
  nm : ByteArray
  A : Option Addr
  m : Nat
  c : Nat
  at_ : Int
  Aa : Option Addr
  na : Nat
  ca : Nat
def Fm.row (f : Fm) : List Value := fr f.k f.nm (.slice f.A f.m f.c) f.at_ (.slice f.Aa f.na f.ca)
def Fm.over (f : Fm) : Bool := decide ((f.m : Int) ≤ f.at_)
def Fm.gone (f : Fm) : Bool := f.k == 3 && f.over
/-- How many frames stay when those that have waited are taken off. -/
def tn (fs : List Fm) : Nat → Nat
  | 0 => 0
  | n + 1 => if (fs[n]?.map Fm.gone) = some true then tn fs n else n + 1
theorem tn_le (fs : List Fm) : ∀ n, tn fs n ≤ n
  | 0 => Nat.le_refl 0
  | n + 1 => by
    unfold tn
    split
    · exact Nat.le_succ_of_le (tn_le fs n)
    · exact Nat.le_refl _
theorem row_one (f : Fm) : ∀ u ∈ f.row, u.oneCell' = true := by
  intro u hu
  simp only [Fm.row, fr, List.mem_cons, List.not_mem_nil, or_false] at hu
  rcases hu with rfl | rfl | rfl | rfl | rfl <;> rfl
theorem done_fm (f : Fm) (w : World) : Calls Tryd.prog 37 #[.agg f.row.toArray] w fun e w' => e = .returned (.bool f.over) ∧ Below w.heap.size w w' :=
  done_calls f.k f.nm f.A f.m f.c f.at_ (.slice f.Aa f.na f.ca) ⟨_, _, _, rfl⟩ f.over rfl w
/-- The stack's cell and its frames' block. -/
structure Cel (sb gf cf : Nat) (A : Option Addr) (fs : List Fm) (w : World) : Prop where
  hA : 0 < fs.length → A = some ⟨gf, 0, none⟩
  hV : w.heap[sb]? = some (.cells #[.slice A fs.length cf, .bool true] 56 (0, 0))
  hF : 0 < fs.length → ∃ cs, w.heap[gf]? = some (.cells cs 68 (0, 0)) ∧ ∀ i f, fs[i]? = some f → ∀ j u, f.row[j]? = some u → cs[i * 5 + j]? = some u
theorem Cel.below {sb gf cf : Nat} {A : Option Addr} {fs : List Fm} {w w1 : World} (h : Cel sb gf cf A fs w) (hb : Below w.heap.size w w1) : Cel sb gf cf A fs w1 := by
  refine ⟨h.hA, blk_below h.hV hb, fun hp => ?_⟩
  obtain ⟨cs, h1, h2⟩ := h.hF hp
  exact ⟨cs, blk_below h1 hb, h2⟩
theorem Cel.of {sb B : Nat} {fs : List Fm} {w : World} (h : Stk sb B (fs.map Fm.row) w) : ∃ gf cf A, Cel sb gf cf A fs w ∧ fs.length ≤ cf ∧ (Kd.raw 5).R 68 w B (fun k => k ≠ sb) (.slice A fs.length cf) (fs.map Fm.row) := by
  obtain ⟨v, hv, hR⟩ := h.st
  cases fs with
  | nil =>
    obtain ⟨A, c, rfl⟩ := Kd.R_slice hR
    exact ⟨0, c, A, ⟨fun h => absurd h (Nat.lt_irrefl 0), hv, fun h => absurd h (Nat.lt_irrefl 0)⟩, Nat.zero_le _, hR⟩
  | cons f fs =>
    obtain ⟨gf, cf, rfl, hbf, hltf, hlef, hCf, htyf, hcf⟩ := raw_at hR (by simp)
    obtain ⟨cs, hcs⟩ := htyf
    have e1 : (((f :: fs).map Fm.row).length) = (f :: fs).length := List.length_map _
    rw [e1] at hv hR hlef
    refine ⟨gf, cf, some ⟨gf, 0, none⟩, ⟨fun _ => rfl, hv, fun _ => ⟨cs, hcs, fun i x hi j u hu => ?_⟩⟩, hlef, hR⟩
    have h9 := (hcf i x.row (by rw [List.getElem?_map, hi]; rfl) j u hu).1
    rw [blk_cell hcs] at h9
    exact h9
theorem Cel.C {sb gf cf : Nat} {A : Option Addr} {fs : List Fm} {w : World} (h : Cel sb gf cf A fs w) (N : Nat) (hN : N ≤ fs.length) (h9 : fs.length ≤ 900) : (Kd.raw 5).C w A N ((fs.take N).map Fm.row) := by
  refine ⟨by simp [Nat.min_eq_left hN], by omega, fun hp => ?_⟩
  obtain ⟨cs, h1, h2⟩ := h.hF (by omega)
  refine ⟨_, h.hA (by omega), fun j p hj => ?_⟩
  rw [List.getElem?_map] at hj
  obtain ⟨f, hf, rfl⟩ := Option.map_eq_some_iff.1 hj
  rw [List.getElem?_take] at hf
  split at hf
  · refine ⟨_, rfl, ⟨rfl, rfl, row_one f⟩, fun i u hu => ?_⟩
    rw [add_at, Nat.zero_add, blk_cell h1]
    exact h2 j f hf i u hu
  · cases hf
set_option maxHeartbeats 2000000 in
set_option maxRecDepth 100000 in
theorem clone51_none (c : Nat) (w : World) : Calls Tryd.prog 51 #[.slice none 0 c] w fun e w' => e = .returned (.slice none 0 0) ∧ w' = w := by
  have hq := q51
  go_enter Tryd.func51, Tryd.ntmps51
  go_wp2
  refine bodyPost_ret (results_tmp rfl _ _ _) rfl ?_
  exact ⟨rfl, rfl⟩
theorem clone_fs {A : Option Addr} {N c : Nat} {rows : List (List Value)} {w : World} (h : (Kd.raw 5).C w A N rows) (hl : N ≤ 1000) : Calls Tryd.prog 51 #[.slice A N c] w fun e w' => ∃ v, e = .returned v ∧ (Kd.raw 5).R 68 w' w.heap.size (fun _ => True) v rows ∧ Below w.heap.size w w' := by
  cases A with
  | some ad => exact clone51 ad N c rows w h hl
  | none =>
    have h0 : N = 0 := by
      cases N with
      | zero => rfl
      | succ n =>
        obtain ⟨ad, ha, _⟩ := h.2.2 (Nat.succ_pos n)
        cases ha
    subst h0
    obtain rfl : rows = [] := List.length_eq_zero_iff.1 h.1
    refine (clone51_none c w).mono ?_
    rintro e w' ⟨rfl, rfl⟩
    exact ⟨_, rfl, Kd.R_nil _ _ _ _ _, Below.refl _ _⟩
structure MidN (sb B cf N : Nat) (A : Option Addr) (fs : List Fm) (v5 : Value) (w W : World) : Prop where
  hO : (Kd.raw 5).R 68 W B (fun k => k ≠ sb) v5 ((fs.take N).map Fm.row)
  hF : ∀ k, W.heap.size ≤ k → k ≠ sb
  hB : Below B w W
  hS : B ≤ W.heap.size
  hV : W.heap[sb]? = some (.cells #[.slice A fs.length cf, .bool true] 56 (0, 0))
  hK : Kept w W (fun k => k = sb)
  hN : ∀ k, v5.ownBlock = some k → k = sb ∨ w.heap.size ≤ k
theorem midn_of {sb B cf N : Nat} {A : Option Addr} {fs : List Fm} {v5 : Value} {w W w5 : World} (h1 : Below B w W) (h2 : B ≤ W.heap.size) (h3 : W.heap[sb]? = some (.cells #[.slice A fs.length cf, .bool true] 56 (0, 0))) (h4 : w.heap.size ≤ W.heap.size) (h5 : Kept w W (fun k => k = sb))
    (hr5 : (Kd.raw 5).R 68 w5 W.heap.size (fun _ => True) v5 ((fs.take N).map Fm.row)) (hb5 : Below W.heap.size W w5) : MidN sb B cf N A fs v5 w w5 :=
  ⟨Kd.R_mono (Kd.R_lower (Kd.R_bound hr5) h2) (fun k hk => Nat.ne_of_gt (Nat.lt_of_lt_of_le (blk_lt h3) hk.2.1)), fun k hk => Nat.ne_of_gt (Nat.lt_of_lt_of_le (blk_lt (blk_below h3 hb5)) hk), h1.trans (hb5.mono h2), Nat.le_trans h2 hb5.size, blk_below h3 hb5, h5.below hb5, fun k hk => Or.inr (Nat.le_trans h4 (Kd.R_base hr5 k hk))⟩
theorem MidN.alloc {sb B cf N : Nat} {A : Option Addr} {fs : List Fm} {v5 : Value} {w W : World} (h : MidN sb B cf N A fs v5 w W) (o : Obj) : MidN sb B cf N A fs v5 w (W.alloc o) :=
  ⟨Kd.R_alloc h.hO o, fun k hk => h.hF k (Nat.le_trans (below_alloc (Below.refl W.heap.size W) o).size hk), h.hB.trans ((below_alloc (Below.refl W.heap.size W) o).mono h.hS), Nat.le_trans h.hS (below_alloc (Below.refl W.heap.size W) o).size, blk_alloc h.hV o, h.hK.alloc o, h.hN⟩
set_option maxHeartbeats 4000000 in
set_option maxRecDepth 100000 in
theorem push_any (sb B : Nat) (f : Fm) (fs : List Fm) (hsz : fs.length ≤ 900) (w : World) (h : Stk sb B (fs.map Fm.row) w) :
    Calls Tryd.prog 34 #[.pointer (some ⟨sb, 0, none⟩), .agg f.row.toArray] w fun e w' => ((50 ≤ tn fs fs.length ∧ e = .returned (.int .i64 2) ∧ Stk sb B (fs.map Fm.row) w') ∨ (tn fs fs.length < 50 ∧ e = .returned (.int .i64 0) ∧ Stk sb B ((fs.take (tn fs fs.length)).map Fm.row ++ [f.row]) w')) ∧ Kept w w' (fun k => k = sb) ∧ Below B w w' := by
  obtain ⟨gf, cf, A, hcel, hlef, hRf⟩ := Cel.of h
  obtain ⟨k, nm, A2, n2, c2, a3, A4, n4, c4⟩ := f
  have H := Aside0.mk h
  have HC := Aside0.mk hcel
  have HRF := Aside0.mk hRf
  have HLF := Aside0.mk hlef
  have HSZ := Aside0.mk hsz
  have hu68 := Tryd.underlying68
  have h1 := Aside0.mk (row_one ⟨k, nm, A2, n2, c2, a3, A4, n4, c4⟩)
  have hrow : (Fm.row ⟨k, nm, A2, n2, c2, a3, A4, n4, c4⟩) = (fr k nm (.slice A2 n2 c2) a3 (.slice A4 n4 c4)) := rfl
  rw [hrow] at h1 ⊢
  clear h hcel hlef hRf hsz hrow
  go_enter Tryd.func34, Tryd.ntmps34
  go_wp2_with (first | ((with_reducible refine gate_dst (N := 3) rfl ?_); refine box_event ?hg (N := 3) ?hd (cs := (fr k nm (.slice A2 n2 c2) a3 (.slice A4 n4 c4)).toArray) (t := 68) ?hr ?_; (case hd => rfl); (case hg => rfl); (case hr => first | (go_simp; done) | (go_simp; rfl)); intro gb hg w3 hbox hb; have X3 := Aside0.mk hbox; have V3 := Aside0.mk (HC.out.below hb); have B3 := Aside0.mk (hb.mono H.out.hB); have K3 := Aside0.mk (Kept.of_below hb (fun k => k = sb)); have S3 := Aside0.mk (Nat.le_trans H.out.hB hb.size); have R3 := Aside0.mk (Kd.R_below HRF.out hb); have s0 : w3.cell? ⟨sb, 0, none⟩ = some (.slice A fs.length cf) := (blk_cell V3.out.hV 0).trans rfl; clear hbox hb hg))
  rename_i K hK
  have HE : ∀ (N : Nat) (W : World) (u6 u7 u8 u9 u10 u11 u12 u13 u14 u15 u16 u17 u18 u19 u20 u21 u22 u23 u24 u25 u26 u27 u28 u29 u30 u31 u32 u33 u34 u35 u36 u37 : Value), Aside0 (N ≤ fs.length) → Aside0 (tn fs fs.length = N) → Aside0 (Below w3.heap.size w3 W) → K { tmps := #[.pointer (some ⟨sb, 0, none⟩), .agg (fr k nm (.slice A2 n2 c2) a3 (.slice A4 n4 c4)).toArray, undef, .pointer (some ⟨gb, 0, none⟩), .int .i64 0, .int .i64 (N : Int), u6, u7, u8, u9, u10, u11, u12, u13, u14, u15, u16, u17, u18, u19, u20, u21, u22, u23, u24, u25, u26, u27, u28, u29, u30, u31, u32, u33, u34, u35, u36, u37, undef, undef, undef, undef, undef, undef, undef, undef, undef, undef, undef, undef, undef, undef, undef], defers := [] } W := by
    intro N W u6 u7 u8 u9 u10 u11 u12 u13 u14 u15 u16 u17 u18 u19 u20 u21 u22 u23 u24 u25 u26 u27 u28 u29 u30 u31 u32 u33 u34 u35 u36 u37 L5 T5 B5
    apply hK
    have V5 := Aside0.mk (V3.out.below B5.out)
    have R5 := Aside0.mk (Kd.R_below R3.out B5.out)
    have X5 := blk_below X3.out B5.out
    have k0 : W.cell? ⟨gb, 0, none⟩ = some (.int .i64 k) := (blk_cell X5 0).trans rfl
    have k1 : W.cell? ⟨gb, 1, none⟩ = some (.string nm) := (blk_cell X5 1).trans rfl
    have k2 : W.cell? ⟨gb, 2, none⟩ = some (.slice A2 n2 c2) := (blk_cell X5 2).trans rfl
    have k3 : W.cell? ⟨gb, 3, none⟩ = some (.int .i64 a3) := (blk_cell X5 3).trans rfl
    have k4 : W.cell? ⟨gb, 4, none⟩ = some (.slice A4 n4 c4) := (blk_cell X5 4).trans rfl
    have X5 := Aside0.mk X5
    have s5 : W.cell? ⟨sb, 0, none⟩ = some (.slice A fs.length cf) := (blk_cell V5.out.hV 0).trans rfl
    have sA : ∀ o, (W.alloc o).cell? ⟨sb, 0, none⟩ = some (.slice A fs.length cf) := fun o => (blk_cell (blk_alloc V5.out.hV o) 0).trans rfl
    have B0 := Aside0.mk (B3.out.trans (B5.out.mono S3.out))
    have S0 := Aside0.mk (Nat.le_trans S3.out B5.out.size)
    have K0 := Aside0.mk (K3.out.below B5.out)
    have hNc : (N ≤ cf) = True := eq_true (by have := L5.out; have := HLF.out; omega)
    have hNi : ((N : Int) ≤ (cf : Int)) = True := eq_true (by have := L5.out; have := HLF.out; omega)
    rcases Nat.lt_or_ge N 50 with h50 | h50
    · have hlt : ((50 : Int) ≤ (N : Int)) = False := eq_false (by omega)
      have H50 := Aside0.mk h50
      have EN := Aside0.mk (show ((fs.take N).map Fm.row).length = N by have := L5.out; simp; omega)
      have EN6 := Aside0.mk (show ((fs.take N).map Fm.row ++ [(fr k nm (.slice A2 n2 c2) a3 (.slice A4 n4 c4))]).length = N + 1 by have := L5.out; simp; omega)
      clear h50 hK
      go_wp2
      have HCL := Aside0.mk (fun W hC => clone_fs (A := A) (N := N) (c := cf) (rows := (fs.take N).map Fm.row) (w := W) hC (by have := H50.out; omega))
      have HA := Aside0.mk (show Below B w W.drew ∧ B ≤ W.drew.heap.size ∧ W.drew.heap[sb]? = some (.cells #[.slice A fs.length cf, .bool true] 56 (0, 0)) ∧ w.heap.size ≤ W.drew.heap.size ∧ Kept w W.drew (fun k => k = sb) from ⟨below_drew1 B0.out, S0.out, V5.out.hV, K0.out.1, K0.out.drew⟩)
      have HB := Aside0.mk (show Below B w (W.alloc (.cells (fr k nm (.slice A2 n2 c2) a3 (.slice A4 n4 c4)).toArray 68)).drew ∧ B ≤ (W.alloc (.cells (fr k nm (.slice A2 n2 c2) a3 (.slice A4 n4 c4)).toArray 68)).drew.heap.size ∧ (W.alloc (.cells (fr k nm (.slice A2 n2 c2) a3 (.slice A4 n4 c4)).toArray 68)).drew.heap[sb]? = some (.cells #[.slice A fs.length cf, .bool true] 56 (0, 0)) ∧ w.heap.size ≤ (W.alloc (.cells (fr k nm (.slice A2 n2 c2) a3 (.slice A4 n4 c4)).toArray 68)).drew.heap.size ∧ Kept w (W.alloc (.cells (fr k nm (.slice A2 n2 c2) a3 (.slice A4 n4 c4)).toArray 68)).drew (fun k => k = sb) from ⟨below_drew1 (B0.out.trans ((below_alloc (Below.refl W.heap.size W) _).mono S0.out)), Nat.le_trans S0.out (below_alloc (Below.refl W.heap.size W) _).size, blk_alloc V5.out.hV _, Nat.le_trans K0.out.1 (below_alloc (Below.refl W.heap.size W) _).size, (K0.out.alloc _).drew⟩)
      have CA := Aside0.mk (show (Kd.raw 5).C W.drew A N ((fs.take N).map Fm.row) from Kd.C_drew (V5.out.C N L5.out HSZ.out))
      have CB := Aside0.mk (show (Kd.raw 5).C (W.alloc (.cells (fr k nm (.slice A2 n2 c2) a3 (.slice A4 n4 c4)).toArray 68)).drew A N ((fs.take N).map Fm.row) from Kd.C_drew (Kd.C_alloc (V5.out.C N L5.out HSZ.out) _))
      have XB := Aside0.mk (show (Kd.raw 5).C (W.alloc (.cells (fr k nm (.slice A2 n2 c2) a3 (.slice A4 n4 c4)).toArray 68)).drew (some ⟨W.heap.size, 0, none⟩) 1 [(fr k nm (.slice A2 n2 c2) a3 (.slice A4 n4 c4))] from Kd.C_drew (box_read W _ rfl h1.out))
      go_region_law (first | (go_simp; go_at_call 51; refine (HCL.out _ CA.out).mono ?_; rintro e w5 ⟨v5, rfl, hr5, hb5⟩; obtain ⟨A5, c5, e5⟩ := Kd.R_slice hr5; rw [EN.out] at e5; subst e5; have M5 := Aside0.mk (midn_of HA.out.1 HA.out.2.1 HA.out.2.2.1 HA.out.2.2.2.1 HA.out.2.2.2.2 hr5 hb5); have Q5 := Aside0.mk (M5.out.alloc (.cells (fr k nm (.slice A2 n2 c2) a3 (.slice A4 n4 c4)).toArray 68)); have XR := Aside0.mk (box_read w5 (fr k nm (.slice A2 n2 c2) a3 (.slice A4 n4 c4)) rfl h1.out); have j0 := (blk_cell (blk_below (blk_drew X5.out) hb5) 0).trans (show _ = some (.int .i64 k) from rfl); have j1 := (blk_cell (blk_below (blk_drew X5.out) hb5) 1).trans (show _ = some (.string nm) from rfl); have j2 := (blk_cell (blk_below (blk_drew X5.out) hb5) 2).trans (show _ = some (.slice A2 n2 c2) from rfl); have j3 := (blk_cell (blk_below (blk_drew X5.out) hb5) 3).trans (show _ = some (.int .i64 a3) from rfl); have j4 := (blk_cell (blk_below (blk_drew X5.out) hb5) 4).trans (show _ = some (.slice A4 n4 c4) from rfl); clear hr5 hb5) | (go_simp; go_at_call 51; refine (HCL.out _ CB.out).mono ?_; rintro e w5 ⟨v5, rfl, hr5, hb5⟩; obtain ⟨A5, c5, e5⟩ := Kd.R_slice hr5; rw [EN.out] at e5; subst e5; have M5 := Aside0.mk (midn_of HB.out.1 HB.out.2.1 HB.out.2.2.1 HB.out.2.2.2.1 HB.out.2.2.2.2 hr5 hb5); have Q5 := M5; have XR := Aside0.mk (Kd.C_below XB.out hb5); clear hr5 hb5) | (refine Kd.R_append_rows_step (Kd.raw 5) (w0 := w) B rfl (.tmp 47) (.tmp 49) 54 68 (.agg #[.int .i64 0, .string ⟨#[]⟩, .slice none 0 0, .int .i64 0, .slice none 0 0]) 80 rfl Tryd.underlying54 info51 rfl raw5 pb51 (.slice A5 N c5) ((fs.take N).map Fm.row) [(fr k nm (.slice A2 n2 c2) a3 (.slice A4 n4 c4))] _ _ _ (fun k => k ≠ sb) (fun _ => False) rfl rfl Q5.out.hO XR.out (fun _ _ h => h) (fun _ h => h.elim) Q5.out.hF Q5.out.hB Q5.out.hS (by have := H50.out; simp only [List.length_map, List.length_take]; omega) ?_; intro v6 w6 ho6 hb6 hg6 hat6; obtain ⟨A6, c6, e6⟩ := Kd.R_slice ho6; rw [EN6.out] at e6; subst e6; have G6 := Aside0.mk (blk_grown Q5.out.hV hg6 (Kd.R_away Q5.out.hO (fun k hk => hk))); have O6 := Aside0.mk ho6; have B6 := Aside0.mk hb6; have K6 := Aside0.mk (Kept.of_grown hg6 Q5.out.hK Q5.out.hN); have S6 := Aside0.mk (Nat.le_trans Q5.out.hS hg6.size); have s6 : w6.cell? ⟨sb, 0, none⟩ = some (.slice A fs.length cf) := (blk_cell G6.out 0).trans rfl; have z6 : w6.frozen? ⟨sb, 0, none⟩ = false := blk_frozen G6.out 0; clear ho6 hb6 hg6 hat6))
      all_goals
        go_wp2
        refine bodyPost_ret (results_tmp rfl _ _ _) rfl ?_
        have h5 := S6.out
        refine ⟨Or.inr ⟨by have := H50.out; have := T5.out; omega, rfl, ⟨⟨_, blk_put G6.out 0 _ rfl, by rw [T5.out]; exact Kd.R_far (p := ⟨sb, 0, none⟩) O6.out (fun k hk => hk) _⟩, ?_, H.out.hs⟩⟩, K6.out.setCell (p := ⟨sb, 0, none⟩) (Or.inl rfl) _, B6.out.setCell H.out.hs _⟩
        show B ≤ (w6.setCell ⟨sb, 0, none⟩ _).heap.size
        simp [World.setCell]
        omega
    · have hlt : ((50 : Int) ≤ (N : Int)) = True := eq_true (by omega)
      have H50 := Aside0.mk h50
      clear h50 hK
      go_wp2
      refine bodyPost_ret (results_tmp rfl _ _ _) rfl ?_
      exact ⟨Or.inl ⟨by rw [T5.out]; exact H50.out, rfl, ⟨⟨_, V5.out.hV, R5.out⟩, S0.out, H.out.hs⟩⟩, K0.out, B0.out⟩
  clear hK
  go_loopg [5] (fs.length) (fun kq v5 w' => v5 = .int .i64 (kq : Int) ∧ Aside0 (kq ≤ fs.length) ∧ Aside0 (tn fs kq = tn fs fs.length) ∧ Aside0 (Below w3.heap.size w3 w'))
  case atStart => exact ⟨rfl, ⟨Nat.le_refl _⟩, ⟨rfl⟩, ⟨Below.refl _ _⟩⟩
  case round =>
    obtain ⟨rfl, L5, T5, B5⟩ := hrel
    cases gk with
    | zero =>
      go_wp2
      exact HE 0 wr _ _ _ _ _ _ _ _ _ _ _ _ _ _ _ _ _ _ _ _ _ _ _ _ _ _ _ _ _ _ _ _ L5 ⟨T5.out.symm⟩ B5
    | succ n =>
      obtain ⟨f, hf⟩ : ∃ f, fs[n]? = some f := ⟨_, List.getElem?_eq_getElem L5.out⟩
      have V5 := V3.out.below B5.out
      obtain ⟨cs, hcs, hcc⟩ := V5.hF (by have := L5.out; omega)
      have hA := V5.hA (by have := L5.out; omega)
      subst hA
      have hwn : wrap64 (n : Int) = (n : Int) := by have := L5.out; have := HSZ.out; unfold wrap64; omega
      have hn1 : ((n : Int) < (fs.length : Int)) = True := eq_true (by have := L5.out; omega)
      have s5 : wr.cell? ⟨sb, 0, none⟩ = some (.slice (some ⟨gf, 0, none⟩) fs.length cf) := (blk_cell V5.hV 0).trans rfl
      have q0 : wr.cell? ⟨gf, n * 5, none⟩ = some (.int .i64 f.k) := (blk_cell hcs _).trans (hcc n f hf 0 _ rfl)
      have q1 : wr.cell? ⟨gf, n * 5 + 1, none⟩ = some (.string f.nm) := (blk_cell hcs _).trans (hcc n f hf 1 _ rfl)
      have q2 : wr.cell? ⟨gf, n * 5 + 2, none⟩ = some (.slice f.A f.m f.c) := (blk_cell hcs _).trans (hcc n f hf 2 _ rfl)
      have q3 : wr.cell? ⟨gf, n * 5 + 3, none⟩ = some (.int .i64 f.at_) := (blk_cell hcs _).trans (hcc n f hf 3 _ rfl)
      have q4 : wr.cell? ⟨gf, n * 5 + 4, none⟩ = some (.slice f.Aa f.na f.ca) := (blk_cell hcs _).trans (hcc n f hf 4 _ rfl)
      have HD := Aside0.mk (fun W => done_fm f W)
      have HF := Aside0.mk hf
      clear hcs hcc V5 hf
      by_cases hk3 : f.k = 3
      · have c3 : (f.k == 3) = true := beq_iff_eq.2 hk3
        by_cases hov : f.over = true
        · have HT := Aside0.mk (show tn fs (n + 1) = tn fs n by rw [tn, if_pos]; rw [HF.out]; simp [Fm.gone, c3, hov])
          rw [hov] at HD
          clear hk3 hov
          go_wp2_with (first | (go_at_call 37; refine (HD.out _).mono ?_; rintro e w6 ⟨rfl, hb6⟩; have B6 := Aside0.mk (B5.out.trans (hb6.mono B5.out.size)); clear hb6))
          go_roundg n
          case measure => omega
          case rel => exact ⟨by rw [hwn], ⟨by have := L5.out; omega⟩, ⟨HT.out.symm.trans T5.out⟩, B6⟩
        · have hov : f.over = false := by simpa using hov
          have HT := Aside0.mk (show tn fs (n + 1) = n + 1 by rw [tn, if_neg]; rw [HF.out]; simp [Fm.gone, hov])
          rw [hov] at HD
          clear hk3 hov
          go_wp2_with (first | (go_at_call 37; refine (HD.out _).mono ?_; rintro e w6 ⟨rfl, hb6⟩; have B6 := Aside0.mk (B5.out.trans (hb6.mono B5.out.size)); clear hb6))
          exact HE (n + 1) _ _ _ _ _ _ _ _ _ _ _ _ _ _ _ _ _ _ _ _ _ _ _ _ _ _ _ _ _ _ _ _ _ L5 ⟨T5.out.symm.trans HT.out⟩ B6
      · have c3 : (f.k == 3) = false := beq_eq_false_iff_ne.2 hk3
        have HT := Aside0.mk (show tn fs (n + 1) = n + 1 by rw [tn, if_neg]; rw [HF.out]; simp [Fm.gone, c3])
        clear hk3
        go_wp2_with (fail)
        exact HE (n + 1) _ _ _ _ _ _ _ _ _ _ _ _ _ _ _ _ _ _ _ _ _ _ _ _ _ _ _ _ _ _ _ _ _ L5 ⟨T5.out.symm.trans HT.out⟩ B5
end Go.Proofs.YtagadehcbpoihaaDoor.Sane5
