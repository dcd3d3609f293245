/- What raster.Line computes: the walk of its line function, each cell handed to a function that lays it at the end of a list. -/
import Derived.Test.YtcnebeoodkeaoaaQRasterLinesx0
import Derived.Test.YtcnebeoodkeaoaaQFlx1
import Derived.StillTailTactics
import Derived.Test.YtcnebeoodkeaoaaFnVal
namespace Go.Proofs.Ytcnebeoodkeaoaa.QRasterLines
open Go.RowKit Go.Proofs.YtcnebeoodkeaoaaW.PrintWords Go.Proofs.YtcnebeoodkeaoaaW.PrintLast Go.Proofs.YtcnebeoodkeaoaaW.PrintMore Go.Proofs.Ytcnebeoodkeaoaa.QFl Go.Proofs.Ytcnebeoodkeaoaa.FnVal
attribute [local go_sem] max2_int min2_int max_two min_two max_three min_three max_four min_four
set_option linter.unusedVariables false
set_option linter.unusedSimpArgs false

theorem some_of_ite {α : Type} {p : Prop} [Decidable p] {a : Option α} {r : α} (h : (if p then a else none) = some r) : p ∧ a = some r := by
  split at h
  · exact ⟨‹_›, h⟩
  · cases h
set_option maxHeartbeats 8000000 in
set_option maxRecDepth 100000 in
/-- The function that lays a cell at the end of the list. -/
theorem push_calls (c : S40) (go : Nat) (v : Value) (xs : List S40) (B : Nat) (ok : Nat → Prop) (w0 w : World) (hgo : w.heap[go]? = some (.cells #[v] 37 (0, 0))) (ho : Kd.R k40 40 w B ok v xs) (hok : ∀ k, ok k → k ≠ go) (hfr : ∀ k, w.heap.size ≤ k → ok k)
    (hB : Below B w0 w) (hBw : B ≤ w.heap.size) (hBgo : B ≤ go) (hl : xs.length < 8796093022208) :
    Calls Try.prog 26 #[.agg #[.int .i64 c.f0, .int .i64 c.f1], .pointer (some ⟨go, 0, none⟩)] w fun e w' => e = .returned (.bool true) ∧ ∃ v', w'.heap[go]? = some (.cells #[v'] 37 (0, 0)) ∧ Kd.R k40 40 w' B ok v' (xs ++ [c]) ∧ Below B w0 w' ∧ Kept w w' (fun k => k = go ∨ some k = v.ownBlock) := by
  obtain ⟨Ao, co, rfl⟩ := Kd.R_slice ho
  have HL := Aside0.mk hl
  have HF := Aside0.mk hfr
  have HG := Aside0.mk hgo
  have HO := Aside0.mk ho
  have HOK := Aside0.mk hok
  have HB := Aside0.mk hB
  have HBw := Aside0.mk hBw
  have HBgo := Aside0.mk hBgo
  clear hl hfr hgo ho hok hB hBw hBgo
  have hu40 := Try.underlying40
  go_enter Try.func26, Try.ntmps26
  go_wp2_with (first | ((with_reducible refine gate_dst (N := 2) rfl ?_); refine box_event ?hg (N := 2) ?hd (cs := #[.int .i64 c.f0, .int .i64 c.f1]) (t := 40) ?hr ?_; (case hd => rfl); (case hg => rfl); (case hr => first | (go_simp; done) | (go_simp; rfl)); intro gb hg w3 hbox hb; have G3 := Aside0.mk (blk_below HG.out hb); have O3 := Aside0.mk (Kd.R_below HO.out hb); have B3 := Aside0.mk (HB.out.trans (hb.mono HBw.out)); have S3 := Aside0.mk (Nat.le_trans HBw.out hb.size); have F3 := Aside0.mk (fun k (hk : w3.heap.size ≤ k) => HF.out k (Nat.le_trans hb.size hk)); have K3 := Aside0.mk (Kept.of_below hb (fun k => k = go ∨ some k = (Value.slice Ao xs.length co).ownBlock)); have hc0 : w3.cell? ⟨gb, 0, none⟩ = some (.int .i64 c.f0) := (blk_cell hbox 0).trans rfl; have hc1 : w3.cell? ⟨gb, 1, none⟩ = some (.int .i64 c.f1) := (blk_cell hbox 1).trans rfl; have hcv : w3.cell? ⟨go, 0, none⟩ = some (.slice Ao xs.length co) := (blk_cell G3.out 0).trans rfl; clear hbox hb hg) | (at_builtin; refine Kd.R_append k40 (w0 := w0) B rfl (.tmp 4) (.tmp 6) 37 40 (.agg #[.int .i64 0, .int .i64 0]) 16 rfl ?_ ?_ ?_ ?_ ?_ (.slice Ao xs.length co) xs c [.int .i64 c.f0, .int .i64 c.f1] ok (fun _ => False) ?_ ?_ ?_ ?_ ?_ ?_ ?_ ?_ ?_ ?_; (case refine_1 => exact Try.underlying37); (case refine_2 => exact info40); (case refine_3 => exact rfl); (case refine_4 => decide); (case refine_5 => omega); (case refine_6 => exact rfl); (case refine_7 => exact rfl); (case refine_8 => exact k40_mkM _ _ _ c); (case refine_9 => exact (fun _ hk => hk.elim)); (case refine_10 => exact F3.out); (case refine_11 => exact O3.out); (case refine_12 => exact B3.out); (case refine_13 => exact S3.out); (case refine_14 => have := HL.out; omega); intro v1 w4 ho4 hb4 hg4 hat4; obtain ⟨A4, c4, e4⟩ := Kd.R_slice ho4; subst e4; have G4 := Aside0.mk (blk_grown G3.out hg4 (Kd.R_away O3.out HOK.out)); have O4 := Aside0.mk ho4; have B4 := Aside0.mk hb4; have K4 := Aside0.mk hg4; have hcv4 : w4.cell? ⟨go, 0, none⟩ = some (.slice Ao xs.length co) := (blk_cell G4.out 0).trans rfl; have hcf4 : w4.frozen? ⟨go, 0, none⟩ = false := blk_frozen G4.out 0; clear ho4 hb4 hg4 hat4))
  go_ret
  have hlen : (xs ++ [c]).length = xs.length + 1 := by simp
  have O5 := O4.out
  rw [hlen] at O5
  refine ⟨rfl, .slice A4 (xs.length + 1) c4, blk_put G4.out 0 _ rfl, Kd.R_far (p := ⟨go, 0, none⟩) O5 HOK.out _, B4.out.setCell HBgo.out _, ?_⟩
  refine ⟨?_, fun i hi hn => ?_⟩
  · have h1 := K3.out.1
    have h2 := K4.out.size
    show w.heap.size ≤ (w4.setCell ⟨go, 0, none⟩ _).heap.size
    simp [World.setCell]
    omega
  · have hne : i ≠ go := fun h => hn (.inl h)
    have hno : some i ≠ (Value.slice Ao xs.length co).ownBlock := fun h => hn (.inr h)
    rw [Below.heap_setCell w4 ⟨go, 0, none⟩ _ i hne]
    rw [K4.out.block i (Nat.lt_of_lt_of_le hi K3.out.1) hno]
    exact K3.out.2 i hi hn

theorem floor_same (a b r : Int) (w : World) (h : raster_floor.f a b = some r) : Calls Try.prog 32 #[.int .i64 a, .int .i64 b] w fun e w' => e = .returned (.int .i64 r) ∧ w' = w := by
  unfold raster_floor.f at h
  by_cases c : b = 0
  · rw [if_pos c] at h; cases h
  · rw [if_neg c] at h
    have c0 : (b == 0) = false := beq_eq_false_iff_ne.mpr c
    by_cases d : Int.tmod a b < 0
    · rw [if_pos d] at h
      obtain rfl := Option.some.inj h
      have d0 : decide (Int.tmod a b < 0) = true := decide_eq_true d
      clear d h
      go_enter Try.func32, Try.ntmps32
      go_wp2
      go_ret
      exact ⟨rfl, rfl⟩
    · rw [if_neg d] at h
      obtain rfl := Option.some.inj h
      have d0 : decide (Int.tmod a b < 0) = false := decide_eq_false d
      clear d h
      go_enter Try.func32, Try.ntmps32
      go_wp2
      go_ret
      exact ⟨rfl, rfl⟩
def cellAt (a0 a1 dx dy n i : Int) : Option S40 := (raster_floor.f (wrap64 ((wrap64 ((wrap64 (2 * i)) * dx)) + n)) (wrap64 (2 * n))).bind fun t1 => (raster_floor.f (wrap64 ((wrap64 ((wrap64 (2 * i)) * dy)) + n)) (wrap64 (2 * n))).bind fun t2 => some ⟨wrap64 (a0 + t1), wrap64 (a1 + t2)⟩
def lineL : Nat → Int → Int → Int → Int → Int → Int → List S40 → Option (List S40)
  | 0, _, _, _, _, _, _, _ => none
  | k + 1, a0, a1, dx, dy, n, i, xs => if i < wrap64 (n + 1) then (if n = 0 then some (xs ++ [⟨a0, a1⟩]) else (cellAt a0 a1 dx dy n i).bind fun c => lineL k a0 a1 dx dy n (wrap64 (i + 1)) (xs ++ [c])) else some xs
def dist (dx dy : Int) : Int := mx (mx (mx dx (wrap64 (-dx))) dy) (wrap64 (-dy))
set_option maxHeartbeats 8000000 in
set_option maxRecDepth 100000 in
theorem line_calls (k : Nat) (a0 a1 b0 b1 : Int) (r : List S40) (go : Nat) (v : Value) (B : Nat) (w0 w : World) (hgo : w.heap[go]? = some (.cells #[v] 37 (0, 0))) (ho : ∀ ok, Kd.R k40 40 w B ok v []) (hk : k < 8796093022208)
    (hB : Below B w0 w) (hBw : B ≤ w.heap.size) (hBgo : B ≤ go) (h : lineL k a0 a1 (wrap64 (b0 - a0)) (wrap64 (b1 - a1)) (dist (wrap64 (b0 - a0)) (wrap64 (b1 - a1))) 0 [] = some r) :
    Calls Try.prog 25 #[.agg #[.int .i64 a0, .int .i64 a1], .agg #[.int .i64 b0, .int .i64 b1], .func (.func 26) #[] #[.pointer (some ⟨go, 0, none⟩)]] w fun e w' => e = .returned (.tuple #[]) ∧ ∃ v', w'.heap[go]? = some (.cells #[v'] 37 (0, 0)) ∧ Kd.R k40 40 w' B (fun k => k ≠ go) v' r ∧ Below B w0 w' := by
  have HG := Aside0.mk hgo
  have HO := Aside0.mk ho
  have HB := Aside0.mk hB
  have HBw := Aside0.mk hBw
  have HBgo := Aside0.mk hBgo
  have HKK := Aside0.mk hk
  clear hgo ho hB hBw hBgo hk
  have hu40 := Try.underlying40
  obtain ⟨dx, hdx⟩ : ∃ j_ : Int, wrap64 (b0 - a0) = j_ := ⟨_, rfl⟩
  obtain ⟨dy, hdy⟩ : ∃ j_ : Int, wrap64 (b1 - a1) = j_ := ⟨_, rfl⟩
  obtain ⟨ex, hex⟩ : ∃ j_ : Int, wrap64 (-dx) = j_ := ⟨_, rfl⟩
  obtain ⟨ey, hey⟩ : ∃ j_ : Int, wrap64 (-dy) = j_ := ⟨_, rfl⟩
  obtain ⟨m1, hm1⟩ : ∃ j_ : Int, mx dx ex = j_ := ⟨_, rfl⟩
  obtain ⟨m2, hm2⟩ : ∃ j_ : Int, mx m1 dy = j_ := ⟨_, rfl⟩
  obtain ⟨n, hn⟩ : ∃ j_ : Int, mx m2 ey = j_ := ⟨_, rfl⟩
  have hdxw : IntKind.i64.wrap (b0 - a0) = dx := (i64_w _).trans hdx
  have hdyw : IntKind.i64.wrap (b1 - a1) = dy := (i64_w _).trans hdy
  rw [hdx, hdy, dist, hex, hey, hm1, hm2, hn] at h
  have hm1_ : (if dx < ex then ex else dx) = m1 := hm1
  have hm2_ : (if m1 < dy then dy else m1) = m2 := hm2
  have hn_ : (if m2 < ey then ey else m2) = n := hn
  have H := Aside0.mk h
  clear h hm1 hm2 hn
  go_enter Try.func25, Try.ntmps25
  go_wp2_with (first | ((with_reducible refine gate_dst (N := 3) rfl ?_); refine box_event ?hg (N := 3) ?hd (cs := #[.int .i64 a0, .int .i64 a1]) (t := 40) ?hr ?_; (case hd => rfl); (case hg => rfl); (case hr => first | (go_simp; done) | (go_simp; rfl)); intro ga hga w3 hbox hb; have GA := Aside0.mk hbox; have G3 := Aside0.mk (blk_below HG.out hb); have O3 := Aside0.mk (fun ok => Kd.R_below (HO.out ok) hb); have B3 := Aside0.mk (HB.out.trans (hb.mono HBw.out)); have S3 := Aside0.mk (Nat.le_trans HBw.out hb.size); have NA := Aside0.mk (show w.heap.size ≤ ga by omega); have NG := Aside0.mk (blk_lt HG.out); clear hbox hb hga HG HO HB HBw) | ((with_reducible refine gate_dst (N := 4) rfl ?_); refine box_event ?hg (N := 4) ?hd (cs := #[.int .i64 b0, .int .i64 b1]) (t := 40) ?hr ?_; (case hd => rfl); (case hg => rfl); (case hr => first | (go_simp; done) | (go_simp; rfl)); intro gb hgb w4 hbox hb; have GB := Aside0.mk hbox; have GA4 := Aside0.mk (blk_below GA.out hb); have HG := Aside0.mk (blk_below G3.out hb); have HO := Aside0.mk (fun ok => Kd.R_below (O3.out ok) hb); have HB := Aside0.mk (B3.out.trans (hb.mono S3.out)); have HBw := Aside0.mk (Nat.le_trans S3.out hb.size); have hca0 : w4.cell? ⟨ga, 0, none⟩ = some (.int .i64 a0) := (blk_cell GA4.out 0).trans rfl; have hca1 : w4.cell? ⟨ga, 1, none⟩ = some (.int .i64 a1) := (blk_cell GA4.out 1).trans rfl; have hcb0 : w4.cell? ⟨gb, 0, none⟩ = some (.int .i64 b0) := (blk_cell hbox 0).trans rfl; have hcb1 : w4.cell? ⟨gb, 1, none⟩ = some (.int .i64 b1) := (blk_cell hbox 1).trans rfl; clear hbox hb hgb G3 O3 B3 S3 GA))
  go_quiet (fail)
  have NE : Aside0 (ga ≠ go) := Aside0.mk (by have := NA.out; have := NG.out; omega)
  have HX := And.intro hdx hdy; have HX2 := Aside0.mk (And.intro HX (And.intro hex hey)); 
  go_wp2
  simp only [hex, hey]
  go_loopg [29] k (fun kq v29 w' => ∃ (i : Int) (xs : List S40) (v : Value), v29 = .int .i64 i ∧ Aside0 (lineL kq a0 a1 dx dy n i xs = some r) ∧ Aside0 (kq + xs.length ≤ k) ∧ Aside0 (w'.heap[go]? = some (.cells #[v] 37 (0, 0))) ∧ Aside0 (w'.heap[ga]? = some (.cells #[.int .i64 a0, .int .i64 a1] 40 (0, 0))) ∧ Aside0 (Kd.R k40 40 w' B (fun k => k ≠ go ∧ k ≠ ga) v xs) ∧ Aside0 (Below B w0 w') ∧ Aside0 (B ≤ w'.heap.size))
  case atStart => exact ⟨0, [], v, rfl, H, Aside0.mk (by simp), Aside0.mk (blk_drewN HG.out _), Aside0.mk (blk_drewN GA4.out _), Aside0.mk (Kd.R_drewN (HO.out _) _), Aside0.mk (pw_below_drewN HB.out _), HBw⟩
  case round =>
    clear H
    obtain ⟨i, xs, v3, rfl, HA, HK, HGr, HAr, HOr, HBr, HSr⟩ := hrel
    cases gk with
    | zero => exact absurd HA.out (by simp [lineL])
    | succ k1 =>
      have H := HA.out
      clear HA
      simp only [lineL] at H
      have LA := Aside0.mk (blk_lt HAr.out)
      have LG := Aside0.mk (blk_lt HGr.out)
      have FR : Aside0 (∀ j, wr.heap.size ≤ j → j ≠ go ∧ j ≠ ga) := Aside0.mk (fun j hj => by have := LA.out; have := LG.out; omega)
      have hca0 : wr.cell? ⟨ga, 0, none⟩ = some (.int .i64 a0) := (blk_cell HAr.out 0).trans rfl
      have hca1 : wr.cell? ⟨ga, 1, none⟩ = some (.int .i64 a1) := (blk_cell HAr.out 1).trans rfl
      have h0n : (wr.drewN 0) = wr := rfl
      by_cases c2 : i < wrap64 (n + 1)
      · rw [if_pos c2] at H
        have t2 : decide (i < wrap64 (n + 1)) = true := decide_eq_true c2
        clear c2
        by_cases c3 : n = 0
        · rw [if_pos c3] at H
          have t3 : (n == 0) = true := beq_iff_eq.mpr c3
          clear c3
          obtain rfl := Option.some.inj H
          clear H
          go_wp2_with (fail)
          refine (push_calls ⟨a0, a1⟩ go v3 xs B (fun k => k ≠ go ∧ k ≠ ga) w0 wr HGr.out HOr.out (fun _ h => h.1) FR.out HBr.out HSr.out HBgo.out (by have := HK.out; have := HKK.out; omega)).mono ?_
          rintro e w5 ⟨rfl, v5, hg5, ho5, hb5, hk5⟩
          have G5 := Aside0.mk hg5
          have O5 := Aside0.mk ho5
          have B5 := Aside0.mk hb5
          clear hg5 ho5 hb5 hk5
          go_wp2
          refine bodyPost_ret (results_none rfl _ _ _) rfl ?_
          exact ⟨rfl, v5, G5.out, Kd.R_mono O5.out (fun _ h => h.1), B5.out⟩
        · rw [if_neg c3] at H
          have t3 : (n == 0) = false := beq_eq_false_iff_ne.mpr c3
          clear c3
          obtain ⟨c, hc, H⟩ := Option.bind_eq_some_iff.mp H
          unfold cellAt at hc
          obtain ⟨f1, hf1, hc⟩ := Option.bind_eq_some_iff.mp hc
          obtain ⟨f2, hf2, hc⟩ := Option.bind_eq_some_iff.mp hc
          obtain rfl := Option.some.inj hc
          have H' := Aside0.mk H
          simp only [← i64_w] at hf1 hf2
          have F1 := Aside0.mk hf1
          have F2 := Aside0.mk hf2
          clear H hf1 hf2
          go_wp2
          refine wp_region_still_tail 26 (by kernel_rfl) (by kernel_rfl) ?_
          simp only [List.take_succ_cons, List.take_zero, List.drop_succ_cons, List.drop_zero]
          repeat (first | still_step | still_call (floor_same _ _ _ _ F1.out) | still_call (floor_same _ _ _ _ F2.out))
          refine wpStill_nil ?_
          refine goesV_ (some 63) rfl rfl (o := .tmp 37) rfl (f := 26) (fst := #[]) (caps := #[.pointer (some ⟨go, 0, none⟩)]) rfl Try.func26 (by kernel_rfl) rfl #[.agg #[.int .i64 (wrap64 (a0 + f1)), .int .i64 (wrap64 (a1 + f2))], .pointer (some ⟨go, 0, none⟩)] (by go_simp; exact ⟨i64_w _, i64_w _⟩) ?_
          refine (push_calls ⟨wrap64 (a0 + f1), wrap64 (a1 + f2)⟩ go v3 xs B (fun k => k ≠ go ∧ k ≠ ga) w0 wr.drew HGr.out (Kd.R_drew HOr.out) (fun _ h => h.1) FR.out (below_drew1 HBr.out) HSr.out HBgo.out (by have := HK.out; have := HKK.out; omega)).mono ?_
          rintro e w5 ⟨rfl, v5, hg5, ho5, hb5, hk5⟩
          have G5 := Aside0.mk hg5
          have O5 := Aside0.mk ho5
          have B5 := Aside0.mk hb5
          have A5 := Aside0.mk (blk_kept HAr.out hk5 (fun h => h.elim NE.out (Kd.R_away HOr.out (fun _ h => h.2))))
          have S5 := Aside0.mk (Nat.le_trans HSr.out hk5.1)
          clear hg5 ho5 hb5 hk5
          refine ⟨_, rfl, ?_⟩
          go_wp2
          go_roundg k1
          case measure => omega
          case rel => exact ⟨_, _, _, rfl, H', Aside0.mk (by have := HK.out; rw [List.length_append]; simp only [List.length_cons, List.length_nil]; omega), G5, A5, O5, B5, S5⟩
      · rw [if_neg c2] at H
        have t2 : decide (i < wrap64 (n + 1)) = false := decide_eq_false c2
        clear c2
        obtain rfl := Option.some.inj H
        clear H
        go_wp2
        refine bodyPost_end (results_none rfl _ _ _) rfl ?_
        exact ⟨rfl, v3, HGr.out, Kd.R_mono HOr.out (fun _ h => h.1), HBr.out⟩
def lineK : Nat := 4000002
def raster_Line.f (a b c d : Int) : Option (List S40 × Int) := if mx (mx (mx a b) c) d > 1000000 then some ([], 1) else if mn (mn (mn a b) c) d < -1000000 then some ([], 1) else (lineL lineK a b (wrap64 (c - a)) (wrap64 (d - b)) (dist (wrap64 (c - a)) (wrap64 (d - b))) 0 []).bind fun r => some (r, 0)
set_option maxHeartbeats 8000000 in
set_option maxRecDepth 100000 in
theorem raster_Line.calls (a0 : Int) (a1 : Int) (a2 : Int) (a3 : Int) (r1 : List S40) (r2 : Int) (w : World) (h : raster_Line.f a0 a1 a2 a3 = some (r1, r2)) :
    Calls Try.prog 12 #[.int .i64 a0, .int .i64 a1, .int .i64 a2, .int .i64 a3] w fun e w' => ∃ v0_ : Value, e = .returned (.tuple #[v0_, .int .i64 r2]) ∧ Kd.R k40 40 w' w.heap.size (fun _ => True) v0_ r1 ∧ Below w.heap.size w w' := by
  unfold raster_Line.f at h
  obtain ⟨m1, hm1⟩ : ∃ j_ : Int, mx a0 a1 = j_ := ⟨_, rfl⟩
  obtain ⟨m2, hm2⟩ : ∃ j_ : Int, mx m1 a2 = j_ := ⟨_, rfl⟩
  obtain ⟨m3, hm3⟩ : ∃ j_ : Int, mx m2 a3 = j_ := ⟨_, rfl⟩
  obtain ⟨n1, hn1⟩ : ∃ j_ : Int, mn a0 a1 = j_ := ⟨_, rfl⟩
  obtain ⟨n2, hn2⟩ : ∃ j_ : Int, mn n1 a2 = j_ := ⟨_, rfl⟩
  obtain ⟨n3, hn3⟩ : ∃ j_ : Int, mn n2 a3 = j_ := ⟨_, rfl⟩
  rw [hm1, hm2, hm3, hn1, hn2, hn3] at h
  have hm1_ : (if a0 < a1 then a1 else a0) = m1 := hm1
  have hm2_ : (if m1 < a2 then a2 else m1) = m2 := hm2
  have hm3_ : (if m2 < a3 then a3 else m2) = m3 := hm3
  have hn1_ : (if a1 < a0 then a1 else a0) = n1 := hn1
  have hn2_ : (if a2 < n1 then a2 else n1) = n2 := hn2
  have hn3_ : (if a3 < n2 then a3 else n2) = n3 := hn3
  clear hm1 hm2 hm3 hn1 hn2 hn3
  by_cases c1 : m3 > 1000000
  · rw [if_pos c1] at h
    have t1 : decide (1000000 < m3) = true := decide_eq_true c1
    clear c1
    obtain ⟨rfl, rfl⟩ := Prod.mk.inj (Option.some.inj h)
    clear h
    go_enter Try.func12, Try.ntmps12
    go_wp2
    go_ret2
    exact ⟨_, rfl, Kd.R_nil _ _ _ _ _, Below.refl _ _⟩
  · rw [if_neg c1] at h
    have t1 : decide (1000000 < m3) = false := decide_eq_false c1
    clear c1
    by_cases c2 : n3 < -1000000
    · rw [if_pos c2] at h
      have t2 : decide (n3 < -1000000) = true := decide_eq_true c2
      clear c2
      obtain ⟨rfl, rfl⟩ := Prod.mk.inj (Option.some.inj h)
      clear h
      go_enter Try.func12, Try.ntmps12
      go_wp2
      go_ret2
      exact ⟨_, rfl, Kd.R_nil _ _ _ _ _, Below.refl _ _⟩
    · rw [if_neg c2] at h
      have t2 : decide (n3 < -1000000) = false := decide_eq_false c2
      clear c2
      obtain ⟨xs, hx, h⟩ := Option.bind_eq_some_iff.mp h
      obtain ⟨rfl, rfl⟩ := Prod.mk.inj (Option.some.inj h)
      have H := Aside0.mk hx
      clear h hx
      go_enter Try.func12, Try.ntmps12
      go_wp2_with (fail)
      have hb0 : Below w.heap.size w (w.alloc (.cells #[.slice none 0 0] 37)) := below_alloc (Below.refl _ _) _
      refine (line_calls lineK a0 a1 a2 a3 xs w.heap.size (.slice none 0 0) w.heap.size w (w.alloc (.cells #[.slice none 0 0] 37)) ?hg (fun ok => Kd.R_nil _ _ _ _ _) (by unfold lineK; omega) hb0 hb0.size (Nat.le_refl _) H.out).mono ?_
      case hg => exact blk_new _ _
      rintro e w5 ⟨rfl, v5, hg5, ho5, hb5⟩
      have hc5 : w5.cell? ⟨w.heap.size, 0, none⟩ = some v5 := (blk_cell hg5 0).trans rfl
      have O5 := Aside0.mk ho5
      have B5 := Aside0.mk hb5
      clear hb0 ho5 hb5 hg5
      go_wp2
      go_ret2
      exact ⟨_, rfl, Kd.R_mono O5.out (fun _ _ => trivial), B5.out⟩
end Go.Proofs.Ytcnebeoodkeaoaa.QRasterLines
