/- Expand: what is thrown is caught at the edge. -/
import Derived.Test.YtpflnhbhgcediaaFExpWEa
import Derived.Test.YtpflnhbhgcediaaFSaneCEx
import Derived.WalkSmall
namespace Go.Proofs.Ytpflnhbhgcediaa.Ex4
open Go.RowKit Go.Proofs.YtpflnhbhgcediaaW.PrintWords Go.Proofs.YtpflnhbhgcediaaW.PrintLast Go.Proofs.YtpflnhbhgcediaaW.PrintMore Go.Proofs.YtpflnhbhgcediaaN Go.Proofs.Ytpflnhbhgcediaa.FnVal Go.Proofs.Ytpflnhbhgcediaa.Str Go.Proofs.Ytpflnhbhgcediaa.Esc4 Go.Proofs.Ytpflnhbhgcediaa.Ask4 Go.Proofs.Ytpflnhbhgcediaa.Plain4 Go.Proofs.Ytpflnhbhgcediaa.Sane4
set_option linter.unusedVariables false
set_option linter.unusedSimpArgs false
def lim4d : List PanicEntry := [{ v := .iface 47 (.agg #[]), recovered := true }]
theorem as_lim (v : Value) (w : World) : (Instr.typeAssert (.iface 47 v) 20 47 true).run Try.prog w = .ok (.tuple #[v, .bool true]) w := by kernel_rfl
set_option maxHeartbeats 4000000 in
set_option maxRecDepth 100000 in
theorem catch_lim (p q : Nat) (x y : Value) (w : World) (hp : w.heap[p]? = some (.cells #[x] 9 (0, 0))) (hq : w.heap[q]? = some (.cells #[y] 30 (0, 0))) :
    CallsD Try.prog 19 #[.pointer (some ⟨p, 0, none⟩), .pointer (some ⟨q, 0, none⟩)] (.panicking lim4) w fun e u' w' => e = .returned (.tuple #[]) ∧ u' = .panicking lim4d ∧ w' = ((w.alloc (.cells #[] 47)).setCell ⟨p, 0, none⟩ (.string ⟨#[]⟩)).setCell ⟨q, 0, none⟩ (.int .i64 2) := by
  have hne : p ≠ q := blk_ne hp hq (by decide)
  have k1 := (blk_cell (blk_alloc hp (.cells #[] 47)) 0).trans (show _ = some x from rfl)
  have z1 := blk_frozen (blk_alloc hp (.cells #[] 47)) 0
  have k2 := (blk_cell (blk_far (p := ⟨p, 0, none⟩) (blk_alloc hq (.cells #[] 47)) hne.symm (.string ⟨#[]⟩)) 0).trans (show _ = some y from rfl)
  have z2 := blk_frozen (blk_far (p := ⟨p, 0, none⟩) (blk_alloc hq (.cells #[] 47)) hne.symm (.string ⟨#[]⟩)) 0
  have hta := as_lim
  refine callsD_of_wpS Try.func19 rfl fun c₀ cs hu => ?_
  apply wpS_seq
  apply wpS_region
  simp [wpOpsS, go_sem, recoverD, hu, Try.ntmps19, Exit.thenS, lim4]
  apply wpS_seq
  apply wpS_region
  simp [wpOpsS, go_sem, recoverD, hu, Try.ntmps19, Exit.thenS]
  refine wpS_cond (t := true) (by simp [Act.eval, Array.replicate]) ?_
  simp only [if_true]
  refine wpS_of_wp ?_
  have e : (#[Value.pointer (some ⟨p, 0, none⟩), Value.pointer (some ⟨q, 0, none⟩)] ++ ((((Array.replicate 14 undef).setIfInBounds 3 (Value.iface 47 (Value.agg #[]))).setIfInBounds 0 (Value.iface 47 (Value.agg #[]))).setIfInBounds 4 (Value.iface 47 (Value.agg #[]))).setIfInBounds 5 (Value.bool true)) = #[.pointer (some ⟨p, 0, none⟩), .pointer (some ⟨q, 0, none⟩), .iface 47 (.agg #[]), undef, undef, .iface 47 (.agg #[]), .iface 47 (.agg #[]), .bool true, undef, undef, undef, undef, undef, undef, undef, undef] := rfl
  rw [e]
  go_wp2
  simp [bodyPostS, results, Try.results19, lim4d]
/-- How Expand ends. -/
def Xd (w0 w : World) (B tb : Nat) (L : List ByteArray) (Aa : Option Addr) (ca : Nat) (r : Res) (e : Ending) (w' : World) : Prop :=
  match r with
  | .ok o A => e = .returned (.tuple #[.string (mkB o), .int .i64 0]) ∧ Tl 40 w0 B tb L Aa ca A w' ∧ Fr B (fun k => k = tb) w w'
  | .lim A => e = .returned (.tuple #[.string ⟨#[]⟩, .int .i64 2]) ∧ Tl 40 w0 B tb L Aa ca A w' ∧ Fr B (fun k => k = tb) w w'
theorem fn_anyX (f : Fn) (a c : Array Value) (w : World) : (binOp .eql 45 (.func f a c) .nilFunc).run Try.prog w = .ok (.bool false) w := by
  have h : ∀ d : Nat, (Op.equalIn (d + 1) 45 (.func f a c) .nilFunc).run Try.prog w = .ok false w := fun d => by
    simp [Op.equalIn, run_underlying Try.underlying45]
  simp only [binOp]
  simp [Op.equal, Op.maxDepth, h 9999]
theorem Fr.off {B b tb : Nat} {w w1 w2 : World} (h1 : Below w.heap.size w w1) (h2 : Fr B (Xb b tb) w1 w2) (hb : w.heap.size ≤ b) : Fr B (fun k => k = tb) w w2 := by
  refine ⟨Nat.le_trans h1.size h2.1, fun i hi hn => ?_⟩
  refine (h2.2 i (Nat.lt_of_lt_of_le hi h1.size) (fun hx => hn ?_)).trans (h1.block i hi)
  rcases hx with (hx | hx) | ⟨hb2, cs, fz, he⟩
  · exact .inl hx
  · omega
  · exact .inr ⟨hb2, cs, fz, (h1.block i hi).symm.trans he⟩
theorem Fr.setNew {B : Nat} {X : Nat → Prop} {w w1 : World} (h : Fr B X w w1) {p : Addr} (hp : w.heap.size ≤ p.block) (u : Value) : Fr B X w (w1.setCell p u) := by
  refine ⟨by have := h.1; simp [World.setCell]; omega, fun i hi hn => ?_⟩
  exact (Below.heap_setCell w1 p u i (by omega)).trans (h.2 i hi hn)
theorem Fr.then_below {B : Nat} {X : Nat → Prop} {w w1 w2 : World} (h : Fr B X w w1) (hb : Below w1.heap.size w1 w2) : Fr B X w w2 := h.trans (Fr.below hb)
theorem two_at {w w4 : World} {B tb : Nat} {cs : Array Value} (hf : Fr B (Xb (w.heap.size + 1 + 1) tb) (((w.alloc (.cells #[.string ⟨#[]⟩] 9)).alloc (.cells #[.int .i64 0] 30)).alloc (.cells cs 51)) w4) (htb : tb < w.heap.size) :
    w4.heap[w.heap.size]? = some (.cells #[.string ⟨#[]⟩] 9 (0, 0)) ∧ w4.heap[w.heap.size + 1]? = some (.cells #[.int .i64 0] 30 (0, 0)) ∧ Fr B (fun k => k = tb) w w4 := by
  obtain ⟨h1, h2, h3⟩ := three (Below.refl (w.heap.size + 1 + 1) (((w.alloc (.cells #[.string ⟨#[]⟩] 9)).alloc (.cells #[.int .i64 0] 30)).alloc (.cells cs 51)))
  refine ⟨hf.at h1 ?_ (by decide), hf.at h2 ?_ (by decide), Fr.off h3 hf (by omega)⟩
  · intro e; rcases e with e | e <;> omega
  · intro e; rcases e with e | e <;> omega
/-- Behind the two results' stores. -/
theorem two_set {w0 w w4 : World} {B tb : Nat} {L : List ByteArray} {Aa : Option Addr} {ca : Nat} {A : List As} {x y : Value} (ht : Tl 40 w0 B tb L Aa ca A w4) (hf : Fr B (fun k => k = tb) w w4) (hw : w0.heap.size ≤ w.heap.size) (h0 : w4.heap[w.heap.size]? = some (.cells #[x] 9 (0, 0))) (h1 : w4.heap[w.heap.size + 1]? = some (.cells #[y] 30 (0, 0))) (u v : Value) :
    Tl 40 w0 B tb L Aa ca A ((w4.setCell ⟨w.heap.size, 0, none⟩ u).setCell ⟨w.heap.size + 1, 0, none⟩ v) ∧ Fr B (fun k => k = tb) w ((w4.setCell ⟨w.heap.size, 0, none⟩ u).setCell ⟨w.heap.size + 1, 0, none⟩ v) := by
  have h1' := blk_far (p := ⟨w.heap.size, 0, none⟩) h1 (show w.heap.size + 1 ≠ w.heap.size by omega) u
  exact ⟨(ht.set (p := ⟨w.heap.size, 0, none⟩) h0 hw (by decide) (by decide) u).set (p := ⟨w.heap.size + 1, 0, none⟩) h1' (Nat.le_succ_of_le hw) (by decide) (by decide) v, (hf.setNew (p := ⟨w.heap.size, 0, none⟩) (Nat.le_refl _) u).setNew (p := ⟨w.heap.size + 1, 0, none⟩) (Nat.le_succ _) v⟩
set_option maxHeartbeats 8000000 in
set_option maxRecDepth 100000 in
theorem Expand_ex (w0 : World) (B tb : Nat) (cp : Bool) (L : List ByteArray) (hL : L.length ≤ 1000) (hLs : ∀ a, (anL L a).length ≤ 100000) (Aa : Option Addr) (ca : Nat) (s : List UInt8) (hf : fitsB (mkB s) = true) (w : World) (h : Tl 40 w0 B tb L Aa ca [] w) :
    Calls Try.prog 11 #[.string (mkB s), .bool cp, .func (.func 13) #[.pointer (some ⟨tb, 0, none⟩)] #[]] w (Xd w0 w B tb L Aa ca (ex cp (anL L) (need [] s + 1) [] s [])) := by
  have hfn := fn_anyX (.func 13) #[.pointer (some ⟨tb, 0, none⟩)] #[]
  have hmf : ∀ (fn : Fn) (first cap : Array Value) (w : World), (Instr.makeFunc fn first cap).run Try.prog w = .ok (.func fn first cap) w := fun _ _ _ _ => rfl
  have hs : s.length ≤ 8000 := by
    have h1 : decide (((mkB s).size : Int) ≤ 2000) = true := by
      unfold fitsB at hf
      rw [Bool.and_eq_true] at hf
      exact hf.1
    rw [size_mkB] at h1
    have := of_decide_eq_true h1
    omega
  have HF := Aside0.mk hf
  obtain ⟨S, hS⟩ : ∃ S, mkB s = S := ⟨_, rfl⟩
  obtain ⟨R, hR⟩ : ∃ R, ex cp (anL L) (need [] s + 1) [] s [] = R := ⟨_, rfl⟩
  have HX := Aside0.mk (fun b w h => expand_ex w0 B b tb cp L hL hLs Aa ca (need [] s + 1) s [] (Nat.lt_succ_self _) hs (by simp) w h)
  rw [hS] at HF HX ⊢
  rw [hR] at HX ⊢
  have H := Aside0.mk h
  have HTB := Aside0.mk (show tb < w.heap.size by obtain ⟨v, hg, _⟩ := h.tel; exact blk_lt hg)
  clear hf hs hS hR h
  go_enter_defers Try.func11, Try.ntmps11
  go_wp2_with (first | (go_at_call 18; refine (fits_calls _ _).mono ?_; rw [HF.out]; rintro e w2 ⟨rfl, rfl⟩))
  have HW0 := Aside0.mk H.out.bel.size
  have HW := Aside0.mk (show Sr w0 B (w.heap.size + 1 + 1) tb cp L Aa ca [] (((w.alloc (.cells #[.string ⟨#[]⟩] 9)).alloc (.cells #[.int .i64 0] 30)).alloc (.cells (rdr tb cp 0) 51)) from ⟨three_new _ _ _ _, ((H.out.below (below_alloc (Below.refl _ _) _)).below (below_alloc (Below.refl _ _) _)).below (below_alloc (Below.refl _ _) _), by have := H.out.bel.size; omega⟩)
  cases R with
  | ok o A =>
    go_wp2_with (first | (go_at_call 20; refine (HX.out _ _ HW.out).mono ?_; rintro e w4 ⟨rfl, hs4, hf4⟩; obtain ⟨h0, h1, hf5⟩ := two_at hf4 HTB.out; have c0 := (blk_cell h0 0).trans (show _ = some (.string ⟨#[]⟩) from rfl); have c1 := (blk_cell h1 0).trans (show _ = some (.int .i64 0) from rfl); have z0 := blk_frozen h0 0; have z1 := blk_frozen h1 0; have E0 := Aside0.mk h0; have E1 := Aside0.mk h1; have E4 := Aside0.mk (And.intro hs4.tl hf5); clear hs4 hf4 h0 h1 hf5))
    refine leaves_cons (f := 19) (args := #[.pointer (some ⟨w.heap.size, 0, none⟩), .pointer (some ⟨w.heap.size + 1, 0, none⟩)]) (by simp) (by simp [go_sem]) ?_
    refine (catch_idle _ _ _).mono ?_
    rintro e u' w'' ⟨rfl, rfl, rfl⟩
    have d0 : (w4.setCell ⟨w.heap.size, 0, none⟩ (.string (mkB o))).cell? ⟨w.heap.size, 0, none⟩ = some (.string (mkB o)) := World.cell?_setCell_same' _ _ _ (by rw [c0]; rfl)
    have h1 := blk_far (p := ⟨w.heap.size, 0, none⟩) E1.out (show w.heap.size + 1 ≠ w.heap.size by omega) (.string (mkB o))
    have d1 : ((w4.setCell ⟨w.heap.size, 0, none⟩ (.string (mkB o))).setCell ⟨w.heap.size + 1, 0, none⟩ (.int .i64 0)).cell? ⟨w.heap.size + 1, 0, none⟩ = some (.int .i64 0) := World.cell?_setCell_same' _ _ _ (by rw [blk_cell h1 0]; rfl)
    simp [Leaves, settle, results, Try.results11, go_sem, d0, d1, Xd]
    exact two_set E4.out.1 E4.out.2 HW0.out E0.out E1.out _ _
  | lim A =>
    go_wp2_with (first | (go_at_call 20; refine (HX.out _ _ HW.out).mono ?_; rintro e w4 ⟨rfl, hs4, hf4⟩; obtain ⟨h0, h1, hf5⟩ := two_at hf4 HTB.out; have E0 := Aside0.mk h0; have E1 := Aside0.mk h1; have E4 := Aside0.mk (And.intro hs4.tl hf5); clear hs4 hf4 h0 h1 hf5))
    refine leaves_cons (f := 19) (args := #[.pointer (some ⟨w.heap.size, 0, none⟩), .pointer (some ⟨w.heap.size + 1, 0, none⟩)]) (by simp) (by simp [go_sem]) ?_
    refine (catch_lim _ _ _ _ _ E0.out E1.out).mono ?_
    rintro e u' w'' ⟨rfl, rfl, rfl⟩
    have h0 := blk_alloc E0.out (.cells #[] 47)
    have h1 := blk_alloc E1.out (.cells #[] 47)
    have d0 : ((w4.alloc (.cells #[] 47)).setCell ⟨w.heap.size, 0, none⟩ (.string ⟨#[]⟩)).cell? ⟨w.heap.size, 0, none⟩ = some (.string ⟨#[]⟩) := World.cell?_setCell_same' _ _ _ (by rw [blk_cell h0 0]; rfl)
    have h2 := blk_far (p := ⟨w.heap.size, 0, none⟩) h1 (show w.heap.size + 1 ≠ w.heap.size by omega) (.string ⟨#[]⟩)
    have d1 : (((w4.alloc (.cells #[] 47)).setCell ⟨w.heap.size, 0, none⟩ (.string ⟨#[]⟩)).setCell ⟨w.heap.size + 1, 0, none⟩ (.int .i64 2)).cell? ⟨w.heap.size + 1, 0, none⟩ = some (.int .i64 2) := World.cell?_setCell_same' _ _ _ (by rw [blk_cell h2 0]; rfl)
    simp [Leaves, settle, results, Try.results11, go_sem, d0, d1, Xd, lim4d]
    exact two_set (E4.out.1.below (below_alloc (Below.refl _ _) _)) (E4.out.2.then_below (below_alloc (Below.refl _ _) _)) HW0.out h0 h1 _ _
end Go.Proofs.Ytpflnhbhgcediaa.Ex4
