/- Next, of any frames of which one is not at its end; of frames that all are. -/
import Derived.Test.YtagadehcbpoihaaDoorFPushNSl
import Derived.Test.YtagadehcbpoihaaDoorFNextASl
import Derived.StillTail
import Derived.StillTailTactics
namespace Go.Proofs.YtagadehcbpoihaaDoor.Sane5
open Go.RowKit Go.Proofs.YtagadehcbpoihaaDoorW.PrintWords Go.Proofs.YtagadehcbpoihaaDoorW.PrintLast Go.Proofs.YtagadehcbpoihaaDoorW.PrintMore Go.Proofs.YtagadehcbpoihaaDoorN Go.Proofs.YtagadehcbpoihaaDoor.Str Go.Proofs.YtagadehcbpoihaaDoor.QSl
set_option linter.unusedVariables false
set_option linter.unusedSimpArgs false
/-- All blocks stay, but those of these types. -/
def KX (l : List TypeId) (w w' : World) : Prop := ∀ (k : Nat) (cs : Array Value) (t : TypeId), t ∉ l → w.heap[k]? = some (.cells cs t (0, 0)) → w'.heap[k]? = some (.cells cs t (0, 0))
theorem KX.refl (l : List TypeId) (w : World) : KX l w w := fun _ _ _ _ h => h
theorem KX.of_below {l : List TypeId} {w w' : World} (h : Below w.heap.size w w') : KX l w w' := fun k cs t _ hk => blk_below hk h
theorem KX.trans {l : List TypeId} {w w1 w2 : World} (h : KX l w w1) (h2 : KX l w1 w2) : KX l w w2 := fun k cs t ht hk => h2 k cs t ht (h k cs t ht hk)
theorem KX.more {l l2 : List TypeId} {w w1 : World} (h : KX l w w1) (hl : ∀ t, t ∈ l → t ∈ l2) : KX l2 w w1 := fun k cs t ht hk => h k cs t (fun h5 => ht (hl t h5)) hk
theorem KX.set {l : List TypeId} {w w1 : World} (h : KX l w w1) {p : Addr} {cs : Array Value} {t : TypeId} (hp : w1.heap[p.block]? = some (.cells cs t (0, 0))) (ht : t ∈ l) (u : Value) : KX l w (w1.setCell p u) := fun k c s hs hk => blk_far (h k c s hs hk) (blk_ne (h k c s hs hk) hp (fun e => hs (e ▸ ht))) u
theorem KX.drew {l : List TypeId} {w w1 : World} (h : KX l w w1) : KX l w w1.drew := fun k c s hs hk => blk_drew (h k c s hs hk)
theorem KX.KL {l : List TypeId} {w w1 : World} (h : KX l w w1) (hl : 34 ∉ l) : KL w w1 := fun k c hk => h k c _ hl hk
theorem KX.of_kept {l : List TypeId} {w w' : World} {sb : Nat} {cs : Array Value} {t : TypeId} (h : Kept w w' (fun k => k = sb)) (hs : w.heap[sb]? = some (.cells cs t (0, 0))) (ht : t ∈ l) : KX l w w' := fun k c s hs2 hk => (h.2 k (blk_lt hk) (blk_ne hk hs (fun e => hs2 (e ▸ ht)))).trans hk
/-- A line's cells. -/
def ln5 (t : ByteArray) (md : Bool) (up dn : Int) (Ab : Option Addr) (nb cb : Nat) : List Value := [.string t, .bool md, .int .i64 up, .int .i64 dn, .slice Ab nb cb]
def fivv (w : World) (g : Nat) (t : ByteArray) (md : Bool) (up dn : Int) (Ab : Option Addr) (nb cb : Nat) : World := ((((w.setCell ⟨g, 0, none⟩ (.string t)).setCell ⟨g, 1, none⟩ (.bool md)).setCell ⟨g, 2, none⟩ (.int .i64 up)).setCell ⟨g, 3, none⟩ (.int .i64 dn)).setCell ⟨g, 4, none⟩ (.slice Ab nb cb)
section
variable (w : World) (g : Nat) (t : ByteArray) (md : Bool) (up dn : Int) (Ab : Option Addr) (nb cb : Nat)
theorem fivv_far (k : Nat) (h : k ≠ g) : (fivv w g t md up dn Ab nb cb).heap[k]? = w.heap[k]? := by
  unfold fivv
  rw [Below.heap_setCell _ ⟨g, 4, none⟩ _ k h, Below.heap_setCell _ ⟨g, 3, none⟩ _ k h, Below.heap_setCell _ ⟨g, 2, none⟩ _ k h, Below.heap_setCell _ ⟨g, 1, none⟩ _ k h, Below.heap_setCell _ ⟨g, 0, none⟩ _ k h]
theorem fivv_below {B : Nat} {w0 : World} (h : Below B w0 w) (hg : B ≤ g) : Below B w0 (fivv w g t md up dn Ab nb cb) :=
  ((((h.setCell (p := ⟨g, 0, none⟩) hg _).setCell (p := ⟨g, 1, none⟩) hg _).setCell (p := ⟨g, 2, none⟩) hg _).setCell (p := ⟨g, 3, none⟩) hg _).setCell (p := ⟨g, 4, none⟩) hg _
theorem fivv_at {ty : TypeId} (h : w.heap[g]? = some (.cells #[.string ⟨#[]⟩, .bool false, .int .i64 0, .int .i64 0, .slice none 0 0] ty (0, 0))) : (fivv w g t md up dn Ab nb cb).heap[g]? = some (.cells (ln5 t md up dn Ab nb cb).toArray ty (0, 0)) :=
  blk_put (blk_put (blk_put (blk_put (blk_put h 0 (.string t) rfl) 1 _ rfl) 2 _ rfl) 3 _ rfl) 4 _ rfl
end
theorem i64w (i : Nat) (h : i ≤ 10000000) : IntKind.i64.wrap (i : Int) = (i : Int) := by rw [IntKind.wrap_i64]; omega
theorem Cel.alloc {sb gf cf : Nat} {A : Option Addr} {fs : List Fm} {w : World} (h : Cel sb gf cf A fs w) (o : Obj) : Cel sb gf cf A fs (w.alloc o) := h.below (below_alloc (Below.refl _ _) _)
set_option maxHeartbeats 8000000 in
set_option maxRecDepth 100000 in
theorem next_any (sb B : Nat) (fs : List Fm) (hsz : fs.length ≤ 900) (j gl i m c : Nat) (k : Int) (nm : ByteArray) (A4 : Option Addr) (n4 c4 : Nat)
    (hj : fs[j]? = some ⟨k, nm, some ⟨gl, 0, none⟩, m, c, (i : Int), A4, n4, c4⟩) (hi : i < m) (hm : m ≤ 10000000) (hmc : m ≤ c) (hgone : ∀ a g, j < a → fs[a]? = some g → g.over = true)
    (Q : List Value → World → Prop) (hQ : ∀ y W W', KX [56, 68, 34] W W' → Q y W → Q y W') (w : World) (h : Stk sb B (fs.map Fm.row) w)
    (HX : ∀ W, KX [56, 68] w W → Calls Tryd.prog 35 #[.slice (some ⟨gl, i * 5, none⟩) 1 (c - i)] W fun e w' => ∃ v t md up dn Ab nb cb, e = .returned v ∧ (Kd.raw 5).R 34 w' W.heap.size (fun _ => True) v [ln5 t md up dn Ab nb cb] ∧ Q (ln5 t md up dn Ab nb cb) w' ∧ Below W.heap.size W w') :
    Calls Tryd.prog 16 #[.pointer (some ⟨sb, 0, none⟩)] w fun e w' => (∃ t md up dn Ab nb cb, e = .returned (.tuple #[.agg (ln5 t md up dn Ab nb cb).toArray, .int .i64 0]) ∧ Q (ln5 t md up dn Ab nb cb) w') ∧ Stk sb B (((fs.take (j + 1)).set j ⟨k, nm, some ⟨gl, 0, none⟩, m, c, (i : Int) + 1, A4, n4, c4⟩).map Fm.row) w' ∧ KX [56, 68] w w' ∧ Below B w w' := by
  obtain ⟨gf, cf, A, hcel, hlef, hRf⟩ := Cel.of h
  have hjl : j < fs.length := (List.getElem?_eq_some_iff.1 hj).1
  obtain rfl := hcel.hA (by omega)
  obtain ⟨csf, hcsf, hcc⟩ := hcel.hF (by omega)
  have hbf : B ≤ gf := Kd.R_base hRf gf (by simp [Value.ownBlock])
  have H := Aside0.mk h
  have HC := Aside0.mk hcel
  have HRF := Aside0.mk hRf
  have HLF := Aside0.mk hlef
  have HSZ := Aside0.mk hsz
  have HJ := Aside0.mk hj
  have HJL := Aside0.mk hjl
  have HG := Aside0.mk hgone
  have HM := Aside0.mk (show i < m ∧ m ≤ 10000000 ∧ m ≤ c from ⟨hi, hm, hmc⟩)
  have HBF := Aside0.mk hbf
  have HXA := Aside0.mk HX
  have HQ := Aside0.mk hQ
  have HNO := Aside0.mk (fun W h => none_calls sb (.slice (some ⟨gf, 0, none⟩) fs.length cf) W h)
  have HDO := Aside0.mk (done_calls k nm (some ⟨gl, 0, none⟩) m c (i : Int) (.slice A4 n4 c4) ⟨_, _, _, rfl⟩ false (decide_eq_false (by omega)))
  have hu68 := Tryd.underlying68
  have hu34 := Tryd.underlying34
  have HF := Aside0.mk hcsf
  have HV := Aside0.mk hcel.hV
  have HNE := Aside0.mk (blk_ne hcsf hcel.hV (by decide))
  have FC := Aside0.mk (hcc j _ hj)
  have hw1 : wrap64 ((i : Int) + 1) = (i : Int) + 1 := by unfold wrap64; omega
  have hw2 : wrap64 (i : Int) = (i : Int) := by unfold wrap64; omega
  have hm1 : (i + 1 ≤ c) = True := eq_true (by omega)
  have hm2 : (((i : Int) + 1 ≤ (c : Int))) = True := eq_true (by omega)
  have HW := Aside0.mk (And.intro hw1 hw2)
  clear h hcel hRf hlef hsz hj hjl hgone hi hm hmc hbf HX hQ hcsf hcc
  go_enter Tryd.func16, Tryd.ntmps16
  have sA : ∀ o, (w.alloc o).cell? ⟨sb, 0, none⟩ = some (.slice (some ⟨gf, 0, none⟩) fs.length cf) := fun o => (blk_cell (blk_alloc HV.out o) 0).trans rfl
  clear hw1 hw2
  go_wp2_with (first | (go_at_call 31; refine (HNO.out _ (blk_alloc HV.out _)).mono ?_; rintro e w2 ⟨rfl, rfl⟩))
  go_loopg [4] (fs.length) (fun kq v4 w' => v4 = .int .i64 (kq : Int) ∧ Aside0 (j + 1 ≤ kq ∧ kq ≤ fs.length) ∧ Aside0 (Below (w.alloc (.cells #[.string ⟨#[]⟩, .bool false, .int .i64 0, .int .i64 0, .slice none 0 0] 34)).heap.size (w.alloc (.cells #[.string ⟨#[]⟩, .bool false, .int .i64 0, .int .i64 0, .slice none 0 0] 34)) w'))
  case atStart => exact ⟨rfl, ⟨by have := HJL.out; omega⟩, ⟨Below.refl _ _⟩⟩
  case round =>
    obtain ⟨rfl, L5, B5⟩ := hrel
    cases gk with
    | zero => exact absurd L5.out.1 (Nat.not_succ_le_zero _)
    | succ n =>
      have V5 := (HC.out.alloc (.cells #[.string ⟨#[]⟩, .bool false, .int .i64 0, .int .i64 0, .slice none 0 0] 34)).below B5.out
      obtain ⟨cs, hcs, hcc⟩ := V5.hF (by have := L5.out; omega)
      have hwn : wrap64 (n : Int) = (n : Int) := by have := L5.out; have := HSZ.out; unfold wrap64; omega
      have hn1 : ((n : Int) < (fs.length : Int)) = True := eq_true (by have := L5.out; omega)
      have s5 : wr.cell? ⟨sb, 0, none⟩ = some (.slice (some ⟨gf, 0, none⟩) fs.length cf) := (blk_cell V5.hV 0).trans rfl
      by_cases hnj : n = j
      · subst hnj
        have q0 : wr.cell? ⟨gf, n * 5, none⟩ = some (.int .i64 k) := (blk_cell hcs _).trans (hcc n _ HJ.out 0 _ rfl)
        have q1 : wr.cell? ⟨gf, n * 5 + 1, none⟩ = some (.string nm) := (blk_cell hcs _).trans (hcc n _ HJ.out 1 _ rfl)
        have q2 : wr.cell? ⟨gf, n * 5 + 2, none⟩ = some (.slice (some ⟨gl, 0, none⟩) m c) := (blk_cell hcs _).trans (hcc n _ HJ.out 2 _ rfl)
        have q3 : wr.cell? ⟨gf, n * 5 + 3, none⟩ = some (.int .i64 (i : Int)) := (blk_cell hcs _).trans (hcc n _ HJ.out 3 _ rfl)
        have q4 : wr.cell? ⟨gf, n * 5 + 4, none⟩ = some (.slice A4 n4 c4) := (blk_cell hcs _).trans (hcc n _ HJ.out 4 _ rfl)
        have HCS := Aside0.mk hcs
        have SV := Aside0.mk V5.hV
        have hnf := hcc n _ HJ.out
        have HN3 := Aside0.mk hnf
        have HCL := Aside0.mk hcc
        clear hcs hcc V5 hnf
        go_wp2_with (first | (go_at_call 37; refine (HDO.out _).mono ?_; rintro e w5 ⟨rfl, hb5⟩; have B6 := Aside0.mk (B5.out.trans (hb5.mono B5.out.size)); have hf5 := blk_below HCS.out hb5; have hs5 := blk_below SV.out hb5; have F5 := Aside0.mk hf5; have S5 := Aside0.mk hs5; have k53 : w5.cell? ⟨gf, n * 5 + 3, none⟩ = some (.int .i64 (i : Int)) := (blk_cell hf5 _).trans (HN3.out 3 _ rfl); have z53 : w5.frozen? ⟨gf, n * 5 + 3, none⟩ = false := blk_frozen hf5 _; have hw1 := HW.out.1; have F6 := Aside0.mk (blk_set hf5 (n * 5 + 3) (.int .i64 ((i : Int) + 1))); have S6 := Aside0.mk (blk_far (p := ⟨gf, n * 5 + 3, none⟩) hs5 HNE.out.symm (.int .i64 ((i : Int) + 1))); have k60 := (blk_cell S6.out 0).trans (show _ = some (.slice (some ⟨gf, 0, none⟩) fs.length cf) from rfl); have z60 := blk_frozen S6.out 0; have hl1 : ((n : Int) + 1 ≤ (cf : Int)) = True := eq_true (by have := L5.out; have := HLF.out; omega); have hl2 : (n + 1 ≤ cf) = True := eq_true (by have := L5.out; have := HLF.out; omega); clear hb5 hf5 hs5))
        have F9 := blk_far (p := ⟨sb, 0, none⟩) F6.out HNE.out (.slice (some ⟨gf, 0, none⟩) (n + 1) cf)
        have S9 := Aside0.mk (blk_set S6.out 0 (.slice (some ⟨gf, 0, none⟩) (n + 1) cf))
        have k92 := (blk_cell F9 (n * 5 + 2)).trans (show _ = some (.slice (some ⟨gl, 0, none⟩) m c) by rw [Array.getElem?_setIfInBounds_ne (by omega)]; exact HN3.out 2 _ rfl)
        have k93 := (blk_cell F9 (n * 5 + 3)).trans (show _ = some (.int .i64 ((i : Int) + 1)) by rw [Array.getElem?_setIfInBounds_self_of_lt (by have h9 := HN3.out 3 _ rfl; obtain ⟨h8, _⟩ := Array.getElem?_eq_some_iff.1 h9; exact h8)])
        have bA := below_alloc (Below.refl w.heap.size w) (.cells #[.string ⟨#[]⟩, .bool false, .int .i64 0, .int .i64 0, .slice none 0 0] 34)
        have X5 : KX [56, 68] w w5 := (KX.of_below bA).trans (KX.of_below B6.out)
        have X9 := (X5.set (p := ⟨gf, n * 5 + 3, none⟩) F5.out (by simp) (.int .i64 ((i : Int) + 1))).set (p := ⟨sb, 0, none⟩) S6.out (by simp) (.slice (some ⟨gf, 0, none⟩) (n + 1) cf)
        have Z5 := blk_below (blk_new w (.cells #[.string ⟨#[]⟩, .bool false, .int .i64 0, .int .i64 0, .slice none 0 0] 34)) B6.out
        have N1 : w.heap.size ≠ gf := fun e => by obtain h8 := blk_lt HF.out; omega
        have N2 : w.heap.size ≠ sb := fun e => by obtain h8 := blk_lt HV.out; omega
        have Z9 := Aside0.mk (blk_far (p := ⟨sb, 0, none⟩) (blk_far (p := ⟨gf, n * 5 + 3, none⟩) Z5 N1 (.int .i64 ((i : Int) + 1))) N2 (.slice (some ⟨gf, 0, none⟩) (n + 1) cf))
        have b5 : Below w.heap.size w w5 := bA.trans (B6.out.mono bA.size)
        have b5B : Below B w w5 := b5.mono H.out.hB
        have b9 := (b5B.setCell (p := ⟨gf, n * 5 + 3, none⟩) HBF.out (.int .i64 ((i : Int) + 1))).setCell (p := ⟨sb, 0, none⟩) H.out.hs (.slice (some ⟨gf, 0, none⟩) (n + 1) cf)
        have r5 := Kd.R_below HRF.out b5
        have eL : (fs.map Fm.row).length = fs.length := List.length_map _
        have r6 := raw_put (cap := cf) (by rw [eL]; exact r5) n k nm (.slice (some ⟨gl, 0, none⟩) m c) (i : Int) ((i : Int) + 1) (.slice A4 n4 c4) (by rw [List.getElem?_map, HJ.out]; rfl) rfl rfl
        have r9 := Aside0.mk (Kd.R_far (p := ⟨sb, 0, none⟩) r6 (fun k hk => hk) (.slice (some ⟨gf, 0, none⟩) (n + 1) cf))
        have b9 := Aside0.mk b9
        have X9 := Aside0.mk X9
        have F9 := Aside0.mk F9
        have b5 := Aside0.mk b5
        obtain ⟨W9, hW9⟩ : ∃ W9, ((w5.setCell ⟨gf, n * 5 + 3, none⟩ (.int .i64 ((i : Int) + 1))).setCell ⟨sb, 0, none⟩ (.slice (some ⟨gf, 0, none⟩) (n + 1) cf)) = W9 := ⟨_, rfl⟩
        rw [hW9] at k92 k93 F9 S9 X9 Z9 b9 r9 ⊢
        have hw2 := HW.out.2
        clear Z5 X5 bA b5B r5 r6 eL
        refine wp_region_still_tail 13 (by kernel_rfl) (by kernel_rfl) ?_
        simp only [List.take_succ_cons, List.take_zero, List.drop_succ_cons, List.drop_zero]
        repeat still_step
        refine wpStill_nil ?_
        have hw3 : IntKind.i64.wrap (i : Int) = (i : Int) := i64w i (by have := HM.out; omega)
        simp only [hw3]
        clear hw1 hw2 hw3 hwn
        have e9 : (c = i) = False := eq_false (by have := HM.out; omega)
        go_wp2_with (first | (go_at_call 35; refine (HXA.out _ X9.out.drew).mono ?_; rintro e w11 ⟨v11, t, md, up, dn, Ab, nb, cb, rfl, hr11, hq11, hb11⟩; obtain ⟨g11, c11, rfl, hbg, hlt, hle, hC11, hty11, hc11⟩ := raw_at hr11 (by simp); have B11 := Aside0.mk hb11; have Q11 := Aside0.mk hq11; have q0 := (hc11 0 _ rfl 0 _ rfl).1; have q1 := (hc11 0 _ rfl 1 _ rfl).1; have q2 := (hc11 0 _ rfl 2 _ rfl).1; have q3 := (hc11 0 _ rfl 3 _ rfl).1; have q4 := (hc11 0 _ rfl 4 _ rfl).1; have Z11 := Aside0.mk (blk_below (blk_drew Z9.out) hb11); have p0 : w11.cell? ⟨w.heap.size, 0, none⟩ = some (.string ⟨#[]⟩) := (blk_cell Z11.out 0).trans rfl; have y0 : w11.frozen? ⟨w.heap.size, 0, none⟩ = false := blk_frozen Z11.out 0; have p1 : w11.cell? ⟨w.heap.size, 1, none⟩ = some (.bool false) := (blk_cell Z11.out 1).trans rfl; have y1 : w11.frozen? ⟨w.heap.size, 1, none⟩ = false := blk_frozen Z11.out 1; have p2 : w11.cell? ⟨w.heap.size, 2, none⟩ = some (.int .i64 0) := (blk_cell Z11.out 2).trans rfl; have y2 : w11.frozen? ⟨w.heap.size, 2, none⟩ = false := blk_frozen Z11.out 2; have p3 : w11.cell? ⟨w.heap.size, 3, none⟩ = some (.int .i64 0) := (blk_cell Z11.out 3).trans rfl; have y3 : w11.frozen? ⟨w.heap.size, 3, none⟩ = false := blk_frozen Z11.out 3; have p4 : w11.cell? ⟨w.heap.size, 4, none⟩ = some (.slice none 0 0) := (blk_cell Z11.out 4).trans rfl; have y4 : w11.frozen? ⟨w.heap.size, 4, none⟩ = false := blk_frozen Z11.out 4; clear hr11 hq11 hb11 hbg hlt hle hC11 hty11 hc11))
        have b11 : Below B w w11 := (below_drew1 b9.out).trans (B11.out.mono (show B ≤ W9.drew.heap.size from Nat.le_trans H.out.hB b9.out.size))
        have r11 := Kd.R_below (Kd.R_drew r9.out) B11.out
        have s11 := blk_below (blk_drew S9.out) B11.out
        have n1 : gf ≠ w.heap.size := fun e => by have h8 := blk_lt HF.out; omega
        have n2 : sb ≠ w.heap.size := fun e => by have h8 := blk_lt HV.out; omega
        have x11 : KX [56, 68] w w11 := X9.out.drew.trans (KX.of_below B11.out)
        have xq : KX [56, 68, 34] w11 (fivv w11 w.heap.size t md up dn Ab nb cb) := by
          intro k cs ty hty hk
          have h7 : k ≠ w.heap.size := by
            rintro rfl
            rw [Z11.out] at hk
            injection hk with hk
            injection hk with _ hk
            exact hty (by simp [← hk])
          exact (fivv_far w11 w.heap.size t md up dn Ab nb cb k h7).trans hk
        have eL : (fs.map Fm.row).length = fs.length := List.length_map _
        have r12 := Kd.R_take (m := n + 1) r11 (by rw [List.length_set, eL]; exact HJL.out)
        have e12 : ((fs.map Fm.row).set n (fr k nm (.slice (some ⟨gl, 0, none⟩) m c) ((i : Int) + 1) (.slice A4 n4 c4))).take (n + 1) = ((fs.take (n + 1)).set n ⟨k, nm, some ⟨gl, 0, none⟩, m, c, (i : Int) + 1, A4, n4, c4⟩).map Fm.row := by
          rw [List.map_set, List.take_set, List.map_take]; rfl
        rw [e12] at r12
        refine bodyPost_ret (results_ct rfl _ _ w.heap.size 34 (ln5 t md up dn Ab nb cb).toArray (0, 0) _ rfl (fivv_at w11 w.heap.size t md up dn Ab nb cb Z11.out) Tryd.underlying34 rfl (by kernel_rfl)) rfl ?_
        refine ⟨⟨t, md, up, dn, Ab, nb, cb, rfl, HQ.out _ _ _ xq Q11.out⟩, ⟨⟨_, (fivv_far w11 w.heap.size t md up dn Ab nb cb sb n2).trans s11, raw_kept r12 (fun k hk => ?_)⟩, Nat.le_trans H.out.hB (fivv_below w11 w.heap.size t md up dn Ab nb cb b11 H.out.hB).size, H.out.hs⟩, ?_, fivv_below w11 w.heap.size t md up dn Ab nb cb b11 H.out.hB⟩
        · obtain rfl : gf = k := by simpa [Value.ownBlock] using hk
          exact fivv_far w11 w.heap.size t md up dn Ab nb cb gf n1
        · intro k cs ty hty hk
          have h7 : k ≠ w.heap.size := fun e => by have h8 := blk_lt hk; omega
          exact (fivv_far w11 w.heap.size t md up dn Ab nb cb k h7).trans (x11 k cs ty hty hk)
      · obtain ⟨g, hg⟩ : ∃ g, fs[n]? = some g := ⟨_, List.getElem?_eq_getElem L5.out.2⟩
        have q0 : wr.cell? ⟨gf, n * 5, none⟩ = some (.int .i64 g.k) := (blk_cell hcs _).trans (hcc n g hg 0 _ rfl)
        have q1 : wr.cell? ⟨gf, n * 5 + 1, none⟩ = some (.string g.nm) := (blk_cell hcs _).trans (hcc n g hg 1 _ rfl)
        have q2 : wr.cell? ⟨gf, n * 5 + 2, none⟩ = some (.slice g.A g.m g.c) := (blk_cell hcs _).trans (hcc n g hg 2 _ rfl)
        have q3 : wr.cell? ⟨gf, n * 5 + 3, none⟩ = some (.int .i64 g.at_) := (blk_cell hcs _).trans (hcc n g hg 3 _ rfl)
        have q4 : wr.cell? ⟨gf, n * 5 + 4, none⟩ = some (.slice g.Aa g.na g.ca) := (blk_cell hcs _).trans (hcc n g hg 4 _ rfl)
        have HD := Aside0.mk (fun W => done_fm g W)
        rw [HG.out n g (by have := L5.out; omega) hg] at HD
        have HLJ := Aside0.mk (show j + 1 ≤ n by have := L5.out; omega)
        clear hcs hcc V5 hg hnj
        go_wp2_with (first | (go_at_call 37; refine (HD.out _).mono ?_; rintro e w6 ⟨rfl, hb6⟩; have B6 := Aside0.mk (B5.out.trans (hb6.mono B5.out.size)); clear hb6))
        go_roundg n
        case measure => omega
        case rel => exact ⟨by rw [hwn], ⟨by have := L5.out; have := HLJ.out; omega⟩, B6⟩
end Go.Proofs.YtagadehcbpoihaaDoor.Sane5
