/- A file's lines come in order: the deeds. -/
import Derived.Test.YtagadehcbpoihaaDoorFCloneSl
import Derived.Test.YtagadehcbpoihaaDoorFOwnSl
import Derived.Test.YtagadehcbpoihaaDoorQSox1
import Derived.Deep.RegionLaw
import Derived.Test.YtagadehcbpoihaaDoorQSox2
import Derived.Test.YtagadehcbpoihaaDoorFNextNSl
import Derived.Test.YtagadehcbpoihaaDoorFSl
/- A deed that puts something on top. -/
/- Next, of any frames and lines; Next, where all frames are at their end. -/
/- File, Macro and Wait, of any frames, texts, lines and arguments. -/
/- own, of any lines. -/
/- Rows of cells as they stand, and rows of structs; slices.Clone of rows of cells, of any length. -/
namespace Go.Proofs.YtagadehcbpoihaaDoor.Raw5
open Go.RowKit Go.Proofs.YtagadehcbpoihaaDoorW.PrintWords Go.Proofs.YtagadehcbpoihaaDoorW.PrintLast Go.Proofs.YtagadehcbpoihaaDoorW.PrintMore Go.Proofs.YtagadehcbpoihaaDoorN Go.Proofs.YtagadehcbpoihaaDoor.Str Go.Proofs.YtagadehcbpoihaaDoor.Sane5
set_option linter.unusedVariables false
set_option linter.unusedSimpArgs false
section
variable {α : Type} {d : Kd α} {e base : Nat} {ok : Nat → Prop} {w : World} {v : Value}
/-- A row that is read, cell by cell. -/
theorem raw_of_C {A : Option Addr} {n : Nat} {xs : List α} (h : d.C w A n xs) : ∃ rows : List (List Value), rows.length = xs.length ∧ (Kd.raw d.sz).C w A n rows ∧ ∀ (j : Nat) (x : α) (c : List Value), xs[j]? = some x → rows[j]? = some c → d.K w x c := by
  obtain ⟨h1, h2, h3⟩ := h
  cases n with
  | zero =>
    obtain rfl : xs = [] := List.length_eq_zero_iff.1 h1
    exact ⟨[], rfl, ⟨rfl, h2, fun h => absurd h (Nat.lt_irrefl 0)⟩, fun j x c hj => by simp at hj⟩
  | succ n =>
    obtain ⟨ad, hA, hc⟩ := h3 (Nat.succ_pos n)
    have hch : ∃ f : Nat → List Value, ∀ j x, xs[j]? = some x → (f j).length = d.sz ∧ d.K w x (f j) ∧ ∀ i u, (f j)[i]? = some u → w.cell? (ad.add (j * d.sz + i)) = some u := by
      have hex : ∀ j : Nat, ∃ c : List Value, ∀ x, xs[j]? = some x → c.length = d.sz ∧ d.K w x c ∧ ∀ i u, c[i]? = some u → w.cell? (ad.add (j * d.sz + i)) = some u := by
        intro j
        cases hj : xs[j]? with
        | none => exact ⟨[], fun x hx => by cases hx⟩
        | some y =>
          obtain ⟨c, h5⟩ := hc j y hj
          exact ⟨c, fun x hx => by obtain rfl := Option.some.inj hx; exact h5⟩
      exact ⟨_, (Classical.axiomOfChoice hex).choose_spec⟩
    obtain ⟨f, hf⟩ := hch
    have hlen : ((List.range xs.length).map f).length = xs.length := by simp
    have hget : ∀ j c, ((List.range xs.length).map f)[j]? = some c → ∃ x, xs[j]? = some x ∧ c = f j := by
      intro j c hj
      have hlt : j < xs.length := by have := (List.getElem?_eq_some_iff.1 hj).1; omega
      rw [List.getElem?_map, List.getElem?_range hlt] at hj
      exact ⟨xs[j], List.getElem?_eq_getElem hlt, (Option.some.inj hj).symm⟩
    refine ⟨(List.range xs.length).map f, hlen, ⟨hlen.trans h1, h2, fun _ => ⟨ad, hA, fun j c hj => ?_⟩⟩, fun j x c hj hc2 => ?_⟩
    · obtain ⟨x, hx, rfl⟩ := hget j c hj
      obtain ⟨f1, f2, f3⟩ := hf j x hx
      exact ⟨f j, f1, ⟨rfl, f1, d.K_one f2⟩, f3⟩
    · obtain ⟨x2, hx2, rfl⟩ := hget j c hc2
      obtain rfl : x2 = x := Option.some.inj (hx2.symm.trans hj)
      exact (hf j x2 hx2).2.1
/-- Cells of one's own whose elements are one's own are a row of one's own. -/
theorem R_of_raw {rows : List (List Value)} {xs : List α} (h : (Kd.raw d.sz).R e w base ok v rows) (hl : xs.length = rows.length) (hm : ∀ (j : Nat) (x : α) (c : List Value), xs[j]? = some x → rows[j]? = some c → d.M w base (fun k => ok k ∧ some k ≠ v.ownBlock) x c) : d.R e w base ok v xs := by
  obtain ⟨h0, inner, ho, hr⟩ := h
  refine ⟨h0, inner, by rw [hl]; exact ho, by rw [hl]; exact hr.1, fun j x hj => ?_⟩
  have hlt : j < rows.length := by have := (List.getElem?_eq_some_iff.1 hj).1; omega
  have h2 := hr.2 j rows[j] (List.getElem?_eq_getElem hlt)
  have h3 := hm j x rows[j] hj (List.getElem?_eq_getElem hlt)
  have h4 : (inner.drop (j * d.sz)).take d.sz = rows[j] := h2.1
  show d.M w base _ x ((inner.drop (j * d.sz)).take d.sz)
  rw [h4]
  exact h3
end
theorem rw5 : 0 < (Kd.raw 5).sz := by decide
theorem rw7 : 0 < (Kd.raw 7).sz := by decide
theorem info65 : (Tryd.prog.info? 34).map (fun i => (i.zero, i.size, i.bytes)) = some (some (.agg #[.string ⟨#[]⟩, .bool false, .int .i64 0, .int .i64 0, .slice none 0 0]), 5, 64) := by kernel_rfl
theorem pb65 : 0 < 64 := by decide
theorem q65 : ∀ (w : World) (a : Option Addr) (n c n' c' : Nat), (binOp .eql 35 (.slice a n c) (.slice none n' c')).run Tryd.prog w = .ok (.bool a.isNone) w := fun w a n c n' c' => Lib.run_eql_slice_nil w _ _ a n c n' c' Tryd.underlying35
set_option maxHeartbeats 2000000 in
set_option maxRecDepth 100000 in
theorem clone65_nil (c : Nat) (w : World) : Calls Tryd.prog 65 #[.slice none 0 c] w fun e w' => e = .returned (.slice none 0 0) ∧ w' = w := by
  have hq := q65
  go_enter Tryd.func65, Tryd.ntmps65
  go_wp2
  refine bodyPost_ret (results_tmp rfl _ _ _) rfl ?_
  exact ⟨rfl, rfl⟩
set_option maxHeartbeats 2000000 in
set_option maxRecDepth 100000 in
theorem clone65 (ad : Addr) (n c : Nat) (rows : List (List Value)) (w : World) (hr : (Kd.raw 5).C w (some ad) n rows) (hl : n ≤ 1000000) :
    Calls Tryd.prog 65 #[.slice (some ad) n c] w fun e w' => ∃ v, e = .returned v ∧ (Kd.raw 5).R 34 w' w.heap.size (fun _ => True) v rows ∧ Below w.heap.size w w' := by
  have hq := q65
  have HR := Aside0.mk hr
  have HL := Aside0.mk hl
  clear hr hl
  go_enter Tryd.func65, Tryd.ntmps65
  go_wp2_with (first | ((with_reducible refine gate_dst (N := 5) rfl ?_); refine Kd.R_lit (Kd.raw 5) _ 34 ?hg (N := 5) ?hd (xs := ([] : List (List Value))) (inner := []) (ok := fun _ => True) (okp := fun _ => True) ?hr ?hp (fun _ hk => hk) trivial (Below.refl _ _) (Nat.le_refl _) (by simp) ?_; (case hd => rfl); (case hg => rfl); (case hr => first | (go_simp; done) | (go_simp; rfl)); (case hp => exact (Reps.none _ _)); intro v3 w3 ho3 hb3 hg3 hn3; have O3 := Aside0.mk ho3; have B3 := Aside0.mk hb3; clear ho3 hb3 hg3 hn3) | ((with_reducible refine gate_builtin (b := .append) (xs := #[.tmp 5, .tmp 6]) rfl ?_); at_builtin; refine Kd.R_append_rows (Kd.raw 5) (w0 := w) w.heap.size rfl (.tmp 5) (.tmp 6) 35 34 (.agg #[.string ⟨#[]⟩, .bool false, .int .i64 0, .int .i64 0, .slice none 0 0]) 64 rfl Tryd.underlying35 info65 rfl rw5 pb65 v3 [] rows _ _ _ (fun _ => True) (fun _ => False) rfl rfl ?aO ?aR (fun _ _ h => h) (fun _ h => h.elim) ?aF ?aB ?aS ?aL ?_; (case aR => exact Kd.C_below HR.out B3.out); (case aB => exact B3.out); (case aF => exact (fun _ _ => trivial)); (case aO => exact O3.out); (case aS => exact B3.out.size); (case aL => have := HL.out; simp only [List.length_nil]; omega); intro v5 w5 ho5 hb5 hg5 hat5; have O5 := Aside0.mk ho5; have B5 := Aside0.mk hb5; clear ho5 hb5 hg5 hat5))
  go_ret
  exact ⟨_, rfl, O5.out, B5.out⟩
theorem clone65_any {A : Option Addr} {N c : Nat} {rows : List (List Value)} {w : World} (h : (Kd.raw 5).C w A N rows) (hl : N ≤ 1000000) : Calls Tryd.prog 65 #[.slice A N c] w fun e w' => ∃ v, e = .returned v ∧ (Kd.raw 5).R 34 w' w.heap.size (fun _ => True) v rows ∧ Below w.heap.size w w' := by
  cases A with
  | some ad => exact clone65 ad N c rows w h hl
  | none =>
    have h0 : N = 0 := by
      cases N with
      | zero => rfl
      | succ n =>
        obtain ⟨ad, ha, _⟩ := h.2.2 (Nat.succ_pos n)
        cases ha
    subst h0
    obtain rfl : rows = [] := List.length_eq_zero_iff.1 h.1
    refine (clone65_nil c w).mono ?_
    rintro e w' ⟨rfl, rfl⟩
    exact ⟨_, rfl, Kd.R_nil _ _ _ _ _, Below.refl _ _⟩
theorem info66 : (Tryd.prog.info? 89).map (fun i => (i.zero, i.size, i.bytes)) = some (some (.agg #[.int .i64 0, .int .i64 0, .int .i64 0, .int .i64 0, .string ⟨#[]⟩, .string ⟨#[]⟩, .slice none 0 0]), 7, 88) := by kernel_rfl
theorem pb66 : 0 < 88 := by decide
theorem q66 : ∀ (w : World) (a : Option Addr) (n c n' c' : Nat), (binOp .eql 32 (.slice a n c) (.slice none n' c')).run Tryd.prog w = .ok (.bool a.isNone) w := fun w a n c n' c' => Lib.run_eql_slice_nil w _ _ a n c n' c' Tryd.underlying32
set_option maxHeartbeats 2000000 in
set_option maxRecDepth 100000 in
theorem clone66_nil (c : Nat) (w : World) : Calls Tryd.prog 66 #[.slice none 0 c] w fun e w' => e = .returned (.slice none 0 0) ∧ w' = w := by
  have hq := q66
  go_enter Tryd.func66, Tryd.ntmps66
  go_wp2
  refine bodyPost_ret (results_tmp rfl _ _ _) rfl ?_
  exact ⟨rfl, rfl⟩
set_option maxHeartbeats 2000000 in
set_option maxRecDepth 100000 in
theorem clone66 (ad : Addr) (n c : Nat) (rows : List (List Value)) (w : World) (hr : (Kd.raw 7).C w (some ad) n rows) (hl : n ≤ 1000000) :
    Calls Tryd.prog 66 #[.slice (some ad) n c] w fun e w' => ∃ v, e = .returned v ∧ (Kd.raw 7).R 89 w' w.heap.size (fun _ => True) v rows ∧ Below w.heap.size w w' := by
  have hq := q66
  have HR := Aside0.mk hr
  have HL := Aside0.mk hl
  clear hr hl
  go_enter Tryd.func66, Tryd.ntmps66
  go_wp2_with (first | ((with_reducible refine gate_dst (N := 5) rfl ?_); refine Kd.R_lit (Kd.raw 7) _ 89 ?hg (N := 5) ?hd (xs := ([] : List (List Value))) (inner := []) (ok := fun _ => True) (okp := fun _ => True) ?hr ?hp (fun _ hk => hk) trivial (Below.refl _ _) (Nat.le_refl _) (by simp) ?_; (case hd => rfl); (case hg => rfl); (case hr => first | (go_simp; done) | (go_simp; rfl)); (case hp => exact (Reps.none _ _)); intro v3 w3 ho3 hb3 hg3 hn3; have O3 := Aside0.mk ho3; have B3 := Aside0.mk hb3; clear ho3 hb3 hg3 hn3) | ((with_reducible refine gate_builtin (b := .append) (xs := #[.tmp 5, .tmp 6]) rfl ?_); at_builtin; refine Kd.R_append_rows (Kd.raw 7) (w0 := w) w.heap.size rfl (.tmp 5) (.tmp 6) 32 89 (.agg #[.int .i64 0, .int .i64 0, .int .i64 0, .int .i64 0, .string ⟨#[]⟩, .string ⟨#[]⟩, .slice none 0 0]) 88 rfl Tryd.underlying32 info66 rfl rw7 pb66 v3 [] rows _ _ _ (fun _ => True) (fun _ => False) rfl rfl ?aO ?aR (fun _ _ h => h) (fun _ h => h.elim) ?aF ?aB ?aS ?aL ?_; (case aR => exact Kd.C_below HR.out B3.out); (case aB => exact B3.out); (case aF => exact (fun _ _ => trivial)); (case aO => exact O3.out); (case aS => exact B3.out.size); (case aL => have := HL.out; simp only [List.length_nil]; omega); intro v5 w5 ho5 hb5 hg5 hat5; have O5 := Aside0.mk ho5; have B5 := Aside0.mk hb5; clear ho5 hb5 hg5 hat5))
  go_ret
  exact ⟨_, rfl, O5.out, B5.out⟩
theorem clone66_any {A : Option Addr} {N c : Nat} {rows : List (List Value)} {w : World} (h : (Kd.raw 7).C w A N rows) (hl : N ≤ 1000000) : Calls Tryd.prog 66 #[.slice A N c] w fun e w' => ∃ v, e = .returned v ∧ (Kd.raw 7).R 89 w' w.heap.size (fun _ => True) v rows ∧ Below w.heap.size w w' := by
  cases A with
  | some ad => exact clone66 ad N c rows w h hl
  | none =>
    have h0 : N = 0 := by
      cases N with
      | zero => rfl
      | succ n =>
        obtain ⟨ad, ha, _⟩ := h.2.2 (Nat.succ_pos n)
        cases ha
    subst h0
    obtain rfl : rows = [] := List.length_eq_zero_iff.1 h.1
    refine (clone66_nil c w).mono ?_
    rintro e w' ⟨rfl, rfl⟩
    exact ⟨_, rfl, Kd.R_nil _ _ _ _ _, Below.refl _ _⟩
/-- Where a row lies, and its cells. -/
theorem raw_atn {sz e base : Nat} {ok : Nat → Prop} {w : World} {v : Value} {rows : List (List Value)} (h : (Kd.raw sz).R e w base ok v rows) (hne : rows ≠ []) : ∃ g cap, v = .slice (some ⟨g, 0, none⟩) rows.length cap ∧ base ≤ g ∧ g < w.heap.size ∧ rows.length ≤ cap ∧ (∃ cs, w.heap[g]? = some (.cells cs e (0, 0))) ∧
    ∀ (j : Nat) (c : List Value), rows[j]? = some c → c.length = sz ∧ ∀ (i : Nat) (u : Value), c[i]? = some u → w.cell? ⟨g, j * sz + i, none⟩ = some u ∧ w.frozen? ⟨g, j * sz + i, none⟩ = false := by
  obtain ⟨A, cap, rfl⟩ := Kd.R_slice h
  have hr := Kd.R_reads' h
  have hpos : 0 < rows.length := List.length_pos_iff.2 hne
  obtain ⟨ad, hA, hcell⟩ := hr.2.2.2.2 hpos
  subst hA
  obtain ⟨g, rfl⟩ := Kd.R_head h
  have hown : (Value.slice (some ⟨g, 0, none⟩) rows.length cap).ownBlock = some g := by simp [Value.ownBlock]
  have hty := Kd.R_typed h g hown
  refine ⟨g, cap, rfl, Kd.R_base h g hown, Kd.R_lt h g hown, hr.2.1, hty, fun j c hj => ?_⟩
  obtain ⟨c2, hl, hK, hc2⟩ := hcell j c hj
  obtain rfl : c2 = c := hK.1
  refine ⟨hl, fun i u hu => ⟨?_, ?_⟩⟩
  · have := hc2 i u hu
    rw [add_at, Nat.zero_add] at this
    exact this
  · obtain ⟨cs, hb⟩ := hty
    exact blk_frozen hb _
theorem set_mid (c : List Value) (j : Nat) (u : Value) (hj : j < c.length) : c.take j ++ [u] ++ c.drop (j + 1) = c.set j u := by
  rw [List.set_eq_take_append_cons_drop, if_pos hj, List.append_assoc]
  rfl
/-- A cell of a row is written. -/
theorem raw_set {sz e base g n cap : Nat} {ok : Nat → Prop} {w : World} {rows : List (List Value)} (h : (Kd.raw sz).R e w base ok (.slice (some ⟨g, 0, none⟩) n cap) rows) (i j : Nat) (c : List Value) (u : Value) (hi : rows[i]? = some c) (hj : j < sz) (hu : u.oneCell' = true) :
    (Kd.raw sz).R e (w.setCell ⟨g, i * sz + j, none⟩ u) base ok (.slice (some ⟨g, 0, none⟩) n cap) (rows.set i (c.set j u)) := by
  obtain ⟨hil, hie⟩ := List.getElem?_eq_some_iff.1 hi
  obtain ⟨g2, cap2, hv, _, _, _, _, hc⟩ := raw_atn h (fun e => by rw [e] at hil; exact absurd hil (Nat.not_lt_zero _))
  injection hv with hv1 hv2 hv3
  injection hv1 with hv1
  injection hv1 with hv1 _ _
  subst hv1
  obtain ⟨hl, hcc⟩ := hc i _ hi
  have hr := Kd.R_reads' h
  obtain ⟨ad, hA, hcell⟩ := hr.2.2.2.2 (by omega)
  obtain ⟨c2, hl2, hK, _⟩ := hcell i c hi
  have h2 := Kd.R_seg (okp := fun _ => False) h (i : Int) (by omega) (by omega) (c := c) (seg := [u]) (j := j) hl (fun j u hu => (hcc j u hu).1) (show j + 1 ≤ sz by omega) (x' := c.set j u) (by
    rw [List.length_singleton, set_mid c j u (by omega)]
    refine rawM sz _ _ _ _ (by rw [List.length_set]; exact hl) (fun q hq => ?_)
    rcases List.mem_or_eq_of_mem_set hq with h5 | h5
    · exact hK.2.2 q (by rw [hK.1]; exact h5)
    · rw [h5]; exact hu) (fun _ hk => hk.elim)
  exact h2.1
end Go.Proofs.YtagadehcbpoihaaDoor.Raw5

namespace Go.Proofs.YtagadehcbpoihaaDoor.Raw5
open Go.RowKit Go.Proofs.YtagadehcbpoihaaDoorW.PrintWords Go.Proofs.YtagadehcbpoihaaDoorW.PrintLast Go.Proofs.YtagadehcbpoihaaDoorW.PrintMore Go.Proofs.YtagadehcbpoihaaDoorN Go.Proofs.YtagadehcbpoihaaDoor.Str Go.Proofs.YtagadehcbpoihaaDoor.Sane5 Go.Proofs.YtagadehcbpoihaaDoor.QSo
set_option linter.unusedVariables false
set_option linter.unusedSimpArgs false
/-- A box's numbers can be copied. -/
def BoxOk (b : S89) : Prop := slices_Clone_int_int.f b.f6 = some b.f6
def LineOk (x : S34) : Prop := x.f4.length ≤ 1000000 ∧ ∀ b ∈ x.f4, BoxOk b
/-- The lines while their boxes are copied: i lines are done. -/
structure OwnSt (w : World) (g cap : Nat) (xs : List S34) (rows : List (List Value)) (i : Nat) (w' : World) : Prop where
  cur : ∃ cur : List (List Value), cur.length = xs.length ∧ (Kd.raw 5).R 34 w' w.heap.size (fun _ => True) (.slice (some ⟨g, 0, none⟩) xs.length cap) cur ∧ (∀ (j : Nat) (x : S34) (c : List Value), j < i → xs[j]? = some x → cur[j]? = some c → k34.M w' w.heap.size (fun k => k ≠ g) x c) ∧ ∀ j : Nat, i ≤ j → cur[j]? = rows[j]?
  hb : Below w.heap.size w w'
/-- The boxes of a line while their numbers are copied: k boxes are done. -/
structure BoxSt (w : World) (g gb cb : Nat) (bs : List S89) (brows : List (List Value)) (k : Nat) (w' : World) : Prop where
  cur : ∃ cur : List (List Value), cur.length = bs.length ∧ (Kd.raw 7).R 89 w' w.heap.size (fun k => k ≠ g) (.slice (some ⟨gb, 0, none⟩) bs.length cb) cur ∧ (∀ (j : Nat) (b : S89) (c : List Value), j < k → bs[j]? = some b → cur[j]? = some c → k89.M w' w.heap.size (fun k => k ≠ g ∧ k ≠ gb) b c) ∧ ∀ j : Nat, k ≤ j → cur[j]? = brows[j]?
theorem k34_cells {w : World} {x : S34} {c : List Value} (h : k34.K w x c) : ∃ A4 c4, c = [.string x.f0, .bool x.f1, .int .i64 x.f2, .int .i64 x.f3, .slice A4 x.f4.length c4] ∧ x.f4.length ≤ c4 ∧ k89.C w A4 x.f4.length x.f4 := k34_open h
/-- One box's numbers are copied. -/
theorem BoxSt.step {w wr w5 : World} {g gb cb k : Nat} {bs : List S89} {brows : List (List Value)} {b : S89} {v : Value} (h : BoxSt w g gb cb bs brows k wr) (hk : bs[k]? = some b) (hK : ∀ c, brows[k]? = some c → k89.K w b c)
    (hr : (Kd.int .i64).R 3 w5 wr.heap.size (fun _ => True) v b.f6) (hb : Below wr.heap.size wr w5) (hw : w.heap.size ≤ wr.heap.size) (hg : ∃ cs, wr.heap[g]? = some (.cells cs 34 (0, 0))) (hgb : ∃ cs, wr.heap[gb]? = some (.cells cs 89 (0, 0))) (hone : v.oneCell' = true) :
    BoxSt w g gb cb bs brows (k + 1) (w5.setCell ⟨gb, k * 7 + 6, none⟩ v) := by
  obtain ⟨cur, hl, hR, hd, hrest⟩ := h.cur
  have hkl : k < bs.length := (List.getElem?_eq_some_iff.1 hk).1
  obtain ⟨c, hc⟩ : ∃ c, cur[k]? = some c := ⟨_, List.getElem?_eq_getElem (by omega)⟩
  have hc2 : brows[k]? = some c := (hrest k (Nat.le_refl k)).symm.trans hc
  obtain ⟨A6, c6, hcells, hle, hC6⟩ := k89_open (hK c hc2)
  obtain ⟨csg, hcsg⟩ := hg
  obtain ⟨csb, hcsb⟩ := hgb
  have hR5 := raw_set (Kd.R_below hR hb) k 6 c v hc (by decide) hone
  refine ⟨cur.set k (c.set 6 v), by rw [List.length_set]; exact hl, hR5, fun j x q hj hx hq => ?_, fun j hj => ?_⟩
  · rcases Nat.lt_or_ge j k with h1 | h1
    · rw [List.getElem?_set_ne (by omega)] at hq
      have h2 := hd j x q h1 hx hq
      exact Kd.M_far (p := ⟨gb, k * 7 + 6, none⟩) (Kd.M_below h2 hb) (fun k hk => hk.2) v
    · obtain rfl : j = k := by omega
      obtain rfl : x = b := Option.some.inj (hx.symm.trans hk)
      rw [List.getElem?_set_self (by omega)] at hq
      obtain rfl := Option.some.inj hq
      rw [hcells]
      have h3 : (Kd.int .i64).R 3 w5 w.heap.size (fun k => k ≠ g ∧ k ≠ gb) v x.f6 := Kd.R_mono (Kd.R_lower (Kd.R_bound hr) hw) (fun k hk => ⟨Nat.ne_of_gt (Nat.lt_of_lt_of_le (blk_lt hcsg) hk.2.1), Nat.ne_of_gt (Nat.lt_of_lt_of_le (blk_lt hcsb) hk.2.1)⟩)
      exact k89_mkM _ _ _ x (Kd.R_far (p := ⟨gb, j * 7 + 6, none⟩) h3 (fun k hk => hk.2) v)
  · rw [List.getElem?_set_ne (by omega)]
    exact hrest j (by omega)
/-- All boxes are copied. -/
theorem BoxSt.done {w w' : World} {g gb cb : Nat} {bs : List S89} {brows : List (List Value)} (h : BoxSt w g gb cb bs brows bs.length w') : k89.R 89 w' w.heap.size (fun k => k ≠ g) (.slice (some ⟨gb, 0, none⟩) bs.length cb) bs := by
  obtain ⟨cur, hl, hR, hd, _⟩ := h.cur
  refine R_of_raw (d := k89) hR hl.symm (fun j x c hj hc => ?_)
  have hjl : j < bs.length := (List.getElem?_eq_some_iff.1 hj).1
  refine k89.M_mono (fun k hk => ⟨hk.1, ?_⟩) (hd j x c hjl hj hc)
  simp only [Value.ownBlock, Option.some.injEq, ne_eq]
  exact hk.2
/-- A line's boxes are copied. -/
theorem OwnSt.step {w wr w5 w' : World} {g cap i : Nat} {xs : List S34} {rows : List (List Value)} {x : S34} {v : Value} (h : OwnSt w g cap xs rows i wr) (hi : xs[i]? = some x) (hK : ∀ c, rows[i]? = some c → k34.K w x c) (hb : Below wr.heap.size wr w5)
    (hone : v.oneCell' = true) (hk : Kept (w5.setCell ⟨g, i * 5 + 4, none⟩ v) w' (fun k => v.ownBlock = some k)) (hv : ∀ k, v.ownBlock = some k → wr.heap.size ≤ k) (hR : k89.R 89 w' w.heap.size (fun k => k ≠ g) v x.f4) (hglt : g < wr.heap.size) (hB : Below w.heap.size w w') :
    OwnSt w g cap xs rows (i + 1) w' := by
  obtain ⟨cur, hl, hRc, hd, hrest⟩ := h.cur
  have hil : i < xs.length := (List.getElem?_eq_some_iff.1 hi).1
  obtain ⟨c, hc⟩ : ∃ c, cur[i]? = some c := ⟨_, List.getElem?_eq_getElem (by omega)⟩
  have hc2 : rows[i]? = some c := (hrest i (Nat.le_refl i)).symm.trans hc
  obtain ⟨A4, c4, hcells, hle, hC4⟩ := k34_open (hK c hc2)
  have hsz : (w5.setCell ⟨g, i * 5 + 4, none⟩ v).heap.size = w5.heap.size := by simp [World.setCell]
  have hstay : ∀ k, k < wr.heap.size → k ≠ g → w'.heap[k]? = wr.heap[k]? := fun k hk1 hk2 => by
    have h1 := hk.2 k (by rw [hsz]; exact Nat.lt_of_lt_of_le hk1 hb.size) (fun h5 => absurd (hv k h5) (by omega))
    exact h1.trans ((Below.heap_setCell w5 ⟨g, i * 5 + 4, none⟩ v k hk2).trans (hb.block k hk1))
  have hgg : w'.heap[g]? = (w5.setCell ⟨g, i * 5 + 4, none⟩ v).heap[g]? := hk.2 g (by rw [hsz]; exact Nat.lt_of_lt_of_le hglt hb.size) (fun h5 => absurd (hv g h5) (by omega))
  have hR5 := raw_set (Kd.R_below hRc hb) i 4 c v hc (by decide) hone
  refine ⟨⟨cur.set i (c.set 4 v), by rw [List.length_set]; exact hl, raw_kept hR5 (fun k hk => ?_), fun j y q hj hy hq => ?_, fun j hj => ?_⟩, hB⟩
  · obtain rfl : g = k := by simpa [Value.ownBlock] using hk
    exact hgg
  · rcases Nat.lt_or_ge j i with h1 | h1
    · rw [List.getElem?_set_ne (by omega)] at hq
      exact k34.M_mono (fun k hk => hk.1) (k34.M_move (fun k hk => hstay k hk.2.2.1 hk.1) (k34.M_bound (hd j y q h1 hy hq)))
    · obtain rfl : j = i := by omega
      obtain rfl : y = x := Option.some.inj (hy.symm.trans hi)
      rw [List.getElem?_set_self (by omega)] at hq
      obtain rfl := Option.some.inj hq
      rw [hcells]
      exact k34_mkM _ _ _ y hR
  · rw [List.getElem?_set_ne (by omega)]
    exact hrest j (by omega)
theorem OwnSt.done {w w' : World} {g cap : Nat} {xs : List S34} {rows : List (List Value)} (h : OwnSt w g cap xs rows xs.length w') : k34.R 34 w' w.heap.size (fun _ => True) (.slice (some ⟨g, 0, none⟩) xs.length cap) xs := by
  obtain ⟨cur, hl, hR, hd, _⟩ := h.cur
  refine R_of_raw (d := k34) hR hl.symm (fun j x c hj hc => ?_)
  have hjl : j < xs.length := (List.getElem?_eq_some_iff.1 hj).1
  refine k34.M_mono (fun k hk => ⟨trivial, ?_⟩) (hd j x c hjl hj hc)
  simp only [Value.ownBlock, Option.some.injEq, ne_eq]
  exact hk
set_option maxHeartbeats 8000000 in
set_option maxRecDepth 100000 in
theorem own_any (A : Option Addr) (c : Nat) (xs : List S34) (w : World) (hC : Kd.C k34 w A xs.length xs) (hc : xs.length ≤ c) (hn : xs.length ≤ 1000000) (hok : ∀ x ∈ xs, LineOk x) :
    Calls Tryd.prog 35 #[.slice A xs.length c] w fun e w' => ∃ v, e = .returned v ∧ Kd.R k34 34 w' w.heap.size (fun _ => True) v xs ∧ Below w.heap.size w w' := by
  obtain ⟨rows, hrl, hrC0, hrK⟩ := raw_of_C hC
  have hrC : (Kd.raw 5).C w A xs.length rows := hrC0
  have HCL := Aside0.mk (clone65_any (c := c) hrC hn)
  have HRL := Aside0.mk hrl
  have HRK := Aside0.mk hrK
  have HN := Aside0.mk hn
  have HOK := Aside0.mk hok
  clear hrC hrC0 hC hc hrl hrK hn hok
  by_cases hne : xs = []
  · subst hne
    obtain rfl : rows = [] := List.length_eq_zero_iff.1 HRL.out
    go_enter Tryd.func35, Tryd.ntmps35
    go_wp2_with (first | (go_at_call 65; refine (HCL.out).mono ?_; rintro e w3 ⟨v3, rfl, hr3, hb3⟩; obtain ⟨A3, c3, rfl⟩ := Kd.R_slice hr3; have R3 := Aside0.mk hr3; have B3 := Aside0.mk hb3; clear hr3 hb3))
    go_loopg [10] 0 (fun kq v10 w' => v10 = .int .i64 0 ∧ w' = w3)
    case atStart => exact ⟨rfl, rfl⟩
    case round =>
      obtain ⟨rfl, rfl⟩ := hrel
      go_wp2
      refine bodyPost_ret (results_tmp rfl _ _ _) rfl ?_
      exact ⟨_, rfl, R_of_raw (d := k34) R3.out rfl (fun j x c hj => by simp at hj), B3.out⟩
  · have HNE := Aside0.mk (show rows ≠ [] from fun e => hne (List.length_eq_zero_iff.1 (by rw [← HRL.out, e]; rfl)))
    clear hne
    go_enter Tryd.func35, Tryd.ntmps35
    go_wp2_with (first | (go_at_call 65; refine (HCL.out).mono ?_; rintro e w3 ⟨v3, rfl, hr3, hb3⟩; obtain ⟨g, cap, rfl, hbg, hlt, hle, hty, hcc⟩ := raw_atn hr3 HNE.out; rw [HRL.out] at hr3 hle ⊢; have S3 := Aside0.mk (OwnSt.mk ⟨rows, HRL.out, hr3, fun j x c hj => absurd hj (Nat.not_lt_zero j), fun j _ => rfl⟩ hb3 : OwnSt w g cap xs rows 0 w3); have LE3 := Aside0.mk hle; have G3 := Aside0.mk hbg; clear hr3 hb3 hbg hlt hle hty hcc))
    go_loopg [10] (xs.length) (fun kq v10 w' => Aside0 (kq ≤ xs.length) ∧ v10 = .int .i64 ((xs.length - kq : Nat) : Int) ∧ Aside0 (OwnSt w g cap xs rows (xs.length - kq) w'))
    case atStart => exact ⟨⟨Nat.le_refl _⟩, by rw [Nat.sub_self]; rfl, by rw [Nat.sub_self]; exact S3⟩
    case round =>
      obtain ⟨L5, rfl, S5⟩ := hrel
      cases gk with
      | zero =>
        rw [Nat.sub_zero] at S5 ⊢
        go_wp2
        refine bodyPost_ret (results_tmp rfl _ _ _) rfl ?_
        exact ⟨_, rfl, S5.out.done, S5.out.hb⟩
      | succ j =>
        obtain ⟨i, hi⟩ : ∃ i, xs.length - (j + 1) = i := ⟨_, rfl⟩
        rw [hi] at S5 ⊢
        have HI := Aside0.mk (show xs.length = i + (j + 1) by have := L5.out; omega)
        obtain ⟨x, hx⟩ : ∃ x, xs[i]? = some x := ⟨_, List.getElem?_eq_getElem (by have := HI.out; omega)⟩
        obtain ⟨cur, hcl, hRc, hd, hrest⟩ := S5.out.cur
        obtain ⟨cl, hcl2⟩ : ∃ cl, rows[i]? = some cl := ⟨_, List.getElem?_eq_getElem (by have := HI.out; have := HRL.out; omega)⟩
        obtain ⟨A4, c4, hcells, hle4, hC4⟩ := k34_open (HRK.out i x cl hx hcl2)
        obtain ⟨g2, cap2, hv2, _, hglt, _, hgty, hcc⟩ := raw_atn hRc (fun e => by rw [e] at hcl; have := HI.out; simp at hcl; omega)
        have hgg : g = g2 := by
          injection hv2 with hv1 hv2 hv3
          injection hv1 with hv1
          injection hv1 with hv1 _ _
        subst hgg
        have hci := (hrest i (Nat.le_refl i)).trans hcl2
        obtain ⟨_, hcell⟩ := hcc i cl hci
        subst hcells
        have q4 : wr.cell? ⟨g, i * 5 + 4, none⟩ = some (.slice A4 x.f4.length c4) := (hcell 4 _ rfl).1
        have z4 : wr.frozen? ⟨g, i * 5 + 4, none⟩ = false := (hcell 4 _ rfl).2
        obtain ⟨brows, hbl, hbC0, hbK⟩ := raw_of_C hC4
        have hbC : (Kd.raw 7).C wr A4 x.f4.length brows := Kd.C_below (show (Kd.raw 7).C w A4 x.f4.length brows from hbC0) S5.out.hb
        have hLok := HOK.out x (List.mem_of_getElem? hx)
        have HB66 := Aside0.mk (clone66_any (c := c4) hbC hLok.1)
        have HX := Aside0.mk hx
        have HCLI := Aside0.mk hcl2
        have HBL := Aside0.mk hbl
        have HBK := Aside0.mk hbK
        have HLO := Aside0.mk hLok
        have HGT := Aside0.mk hgty
        have HGL := Aside0.mk hglt
        have c0 : ((i : Int) < (xs.length : Int)) = True := eq_true (by have := HI.out; omega)
        have hw1 : wrap64 ((i : Int) + 1) = (i : Int) + 1 := by have := HI.out; have := HN.out; unfold wrap64; omega
        clear hx hcl hRc hd hrest hcl2 hle4 hC4 hv2 hglt hgty hcc hci hcell hbl hbC0 hbC hbK hLok hi
        go_wp2_with (first | (go_at_call 66; refine (HB66.out).mono ?_; rintro e w5 ⟨v5, rfl, hr5, hb5⟩; obtain ⟨A5, c5, e5⟩ := Kd.R_slice hr5; rw [HBL.out] at e5; subst e5; have R5 := Aside0.mk hr5; have B5 := Aside0.mk hb5; have q5 : w5.cell? ⟨g, i * 5 + 4, none⟩ = some (.slice A4 x.f4.length c4) := (hb5.cell (World.block_lt_of_cell? wr _ q4)).trans q4; have z5 : w5.frozen? ⟨g, i * 5 + 4, none⟩ = false := (by obtain ⟨cs, hcs⟩ := HGT.out; exact blk_frozen (blk_below hcs hb5) _); clear hr5 hb5))
        have hwle : w.heap.size ≤ wr.heap.size := S5.out.hb.size
        obtain ⟨csg, hcsg⟩ := HGT.out
        have hcs5 := blk_below hcsg B5.out
        have RB := Aside0.mk (Kd.R_far (p := ⟨g, i * 5 + 4, none⟩) (Kd.R_mono (Kd.R_lower (Kd.R_bound R5.out) hwle) (fun k (hk : _ ∧ wr.heap.size ≤ k ∧ _) => show k ≠ g from Nat.ne_of_gt (Nat.lt_of_lt_of_le HGL.out hk.2.1))) (fun k hk => hk) (.slice A5 x.f4.length c5))
        have HBA := Aside0.mk (fun k (hk : (Value.slice A5 x.f4.length c5).ownBlock = some k) => Kd.R_base R5.out k hk)
        have BW0 := Aside0.mk ((S5.out.hb.trans (B5.out.mono hwle)).setCell (p := ⟨g, i * 5 + 4, none⟩) (G3.out) (.slice A5 x.f4.length c5))
        have GC := Aside0.mk (blk_set hcs5 (i * 5 + 4) (.slice A5 x.f4.length c5))
        have GC4 := Aside0.mk (show (csg.setIfInBounds (i * 5 + 4) (.slice A5 x.f4.length c5))[i * 5 + 4]? = some (.slice A5 x.f4.length c5) by
          have h9 := q5
          rw [blk_cell hcs5] at h9
          obtain ⟨h8, _⟩ := Array.getElem?_eq_some_iff.1 h9
          rw [Array.getElem?_setIfInBounds_self_of_lt h8])
        obtain ⟨W0, hW0⟩ : ∃ W0, w5.setCell ⟨g, i * 5 + 4, none⟩ (.slice A5 x.f4.length c5) = W0 := ⟨_, rfl⟩
        have HW0 := Aside0.mk hW0
        rw [hW0] at RB BW0 GC ⊢
        clear hW0 hcsg hcs5 hwle
        by_cases hm : x.f4 = []
        · have cm : ((x.f4.length : Nat) : Int) = 0 := by rw [hm]; rfl
          have HM := Aside0.mk hm
          clear hm
          go_loopg [29] 0 (fun kq v29 w' => v29 = .int .i64 0 ∧ w' = W0)
          case atStart => exact ⟨rfl, rfl⟩
          case round =>
            obtain ⟨rfl, rfl⟩ := hrel
            go_wp2
            go_roundg j
            case measure => omega
            case rel =>
              refine ⟨⟨by have := L5.out; omega⟩, by have := HI.out; rw [show xs.length - j = i + 1 by omega]; simp [hw1], ?_⟩
              rw [show xs.length - j = i + 1 by have := HI.out; omega]
              refine ⟨OwnSt.step S5.out HX.out (fun c hc => HRK.out i x c HX.out hc) B5.out rfl (by rw [HW0.out]; exact Kept.refl _ _) HBA.out ?_ HGL.out BW0.out⟩
              refine R_of_raw (d := k89) RB.out HBL.out.symm (fun j b c hj => ?_)
              rw [HM.out] at hj
              simp at hj
        · obtain ⟨gb, cb, hv5, hbb, hgbl, hbe, hbty, _⟩ := raw_atn RB.out (fun e => hm (List.length_eq_zero_iff.1 (by rw [← HBL.out, e]; rfl)))
          rw [HBL.out] at hv5
          injection hv5 with hv6 _ hv7
          subst hv6
          subst hv7
          have hgb2 : wr.heap.size ≤ gb := HBA.out gb (by simp [Value.ownBlock])
          have HGG := Aside0.mk (show g ≠ gb from Nat.ne_of_lt (Nat.lt_of_lt_of_le HGL.out hgb2))
          have LEB := Aside0.mk (show x.f4.length ≤ c5 by rw [← HBL.out]; exact hbe)
          have GBB := Aside0.mk hbb
          have BTY := Aside0.mk hbty
          have SB := Aside0.mk (BoxSt.mk ⟨brows, HBL.out, RB.out, fun j b c hj => absurd hj (Nat.not_lt_zero j), fun j _ => rfl⟩ : BoxSt w g gb c5 x.f4 brows 0 W0)
          clear hm hbb hgbl hbe hbty hgb2
          go_loopg [29] (x.f4.length) (fun kq v29 w' => Aside0 (kq ≤ x.f4.length) ∧ v29 = .int .i64 ((x.f4.length - kq : Nat) : Int) ∧ Aside0 (BoxSt w g gb c5 x.f4 brows (x.f4.length - kq) w') ∧ Aside0 (Kept W0 w' (fun k => k = gb)) ∧ Aside0 (Below w.heap.size w w') ∧ Aside0 (∃ cs, w'.heap[gb]? = some (.cells cs 89 (0, 0))))
          case atStart => exact ⟨⟨Nat.le_refl _⟩, by rw [Nat.sub_self]; rfl, by rw [Nat.sub_self]; exact SB, ⟨Kept.refl _ _⟩, BW0, BTY⟩
          case round =>
            obtain ⟨M5, rfl, SB5, K5, BI, TB⟩ := hrel
            cases gk with
            | zero =>
              rw [Nat.sub_zero] at SB5 ⊢
              go_wp2
              go_roundg j
              case measure => omega
              case rel =>
                refine ⟨⟨by have := L5.out; omega⟩, by have := HI.out; rw [show xs.length - j = i + 1 by omega]; simp [hw1], ?_⟩
                rw [show xs.length - j = i + 1 by have := HI.out; omega]
                refine ⟨OwnSt.step S5.out HX.out (fun c hc => HRK.out i x c HX.out hc) B5.out rfl (by rw [HW0.out]; exact K5.out.mono (fun k hk => by subst hk; simp [Value.ownBlock])) HBA.out SB5.out.done HGL.out BI.out⟩
            | succ q =>
              obtain ⟨k, hk⟩ : ∃ k, x.f4.length - (q + 1) = k := ⟨_, rfl⟩
              rw [hk] at SB5 ⊢
              have HKQ := Aside0.mk (show x.f4.length = k + (q + 1) by have := M5.out; omega)
              obtain ⟨b, hbk⟩ : ∃ b, x.f4[k]? = some b := ⟨_, List.getElem?_eq_getElem (by have := HKQ.out; omega)⟩
              obtain ⟨cl2, hcl3⟩ : ∃ cl, brows[k]? = some cl := ⟨_, List.getElem?_eq_getElem (by have := HKQ.out; have := HBL.out; omega)⟩
              obtain ⟨A6, c6, hcells2, hle6, hC6⟩ := k89_open (HBK.out k b cl2 hbk hcl3)
              obtain ⟨cur2, hcl4, hRc2, hd2, hrest2⟩ := SB5.out.cur
              obtain ⟨g3, cap3, hv8, _, _, _, _, hcc2⟩ := raw_atn hRc2 (fun e => by rw [e] at hcl4; have := HKQ.out; simp at hcl4; omega)
              have hgb3 : gb = g3 := by
                injection hv8 with hv1 hv2 hv3
                injection hv1 with hv1
                injection hv1 with hv1 _ _
              subst hgb3
              obtain ⟨_, hcell2⟩ := hcc2 k cl2 ((hrest2 k (Nat.le_refl k)).trans hcl3)
              subst hcells2
              have q6 : wr.cell? ⟨gb, k * 7 + 6, none⟩ = some (.slice A6 b.f6.length c6) := (hcell2 6 _ rfl).1
              have hgW := (K5.out.2 g (blk_lt GC.out) HGG.out).trans GC.out
              have qg : wr.cell? ⟨g, i * 5 + 4, none⟩ = some (.slice (some ⟨gb, 0, none⟩) x.f4.length c5) := (blk_cell hgW _).trans GC4.out
              have GW := Aside0.mk hgW
              have HNC := Aside0.mk (fun W hC => slices_Clone_int_int.calls A6 c6 b.f6 b.f6 W hC hle6 (HLO.out.2 b (List.mem_of_getElem? hbk)))
              have HC6 := Aside0.mk (Kd.C_below hC6 BI.out)
              have HBX := Aside0.mk hbk
              have c1 : ((k : Int) < (x.f4.length : Int)) = True := eq_true (by have := HKQ.out; omega)
              have hw2 : wrap64 ((k : Int) + 1) = (k : Int) + 1 := by have := HKQ.out; have := HLO.out.1; unfold wrap64; omega
              have Q6 := Aside0.mk q6
              clear hk hbk hcl3 hle6 hC6 hcl4 hRc2 hd2 hrest2 hv8 hcc2 hcell2 hgW
              go_wp2
              go_region_law (first | (go_simp; go_at_call 67; refine (HNC.out _ (Kd.C_drew HC6.out)).mono ?_; rintro e w6 ⟨v6, rfl, hr6, hb6⟩; obtain ⟨A7, c7, e7⟩ := Kd.R_slice hr6; subst e7; have R6 := Aside0.mk hr6; have B6 := Aside0.mk ((below_drew1 (Below.refl wr.heap.size wr)).trans hb6); have q7 : w6.cell? ⟨gb, k * 7 + 6, none⟩ = some (.slice A6 b.f6.length c6) := (B6.out.cell (World.block_lt_of_cell? wr _ Q6.out)).trans Q6.out; have z7 : w6.frozen? ⟨gb, k * 7 + 6, none⟩ = false := (by obtain ⟨cs, hcs⟩ := TB.out; exact blk_frozen (blk_below hcs B6.out) _); have qg6 : w6.cell? ⟨g, i * 5 + 4, none⟩ = some (.slice (some ⟨gb, 0, none⟩) x.f4.length c5) := (blk_cell (blk_below GW.out B6.out) _).trans GC4.out; clear hr6 hb6))
              all_goals
                have st := Aside0.mk (SB5.out.step HBX.out (fun c hc => HBK.out k b c HBX.out hc) R6.out B6.out BI.out.size ⟨_, GW.out⟩ TB.out rfl)
                have kt := Aside0.mk ((K5.out.below B6.out).setCell (p := ⟨gb, k * 7 + 6, none⟩) (Or.inl rfl) (.slice A7 b.f6.length c7))
                have bt := Aside0.mk ((BI.out.trans (B6.out.mono BI.out.size)).setCell (p := ⟨gb, k * 7 + 6, none⟩) GBB.out (.slice A7 b.f6.length c7))
                have tt := Aside0.mk (show ∃ cs, (w6.setCell ⟨gb, k * 7 + 6, none⟩ (.slice A7 b.f6.length c7)).heap[gb]? = some (.cells cs 89 (0, 0)) by
                  obtain ⟨cs, hcs⟩ := TB.out
                  exact ⟨_, blk_set (blk_below hcs B6.out) _ _⟩)
                go_wp2
                go_roundg q
                case measure => omega
                case rel =>
                  refine ⟨⟨by have := M5.out; omega⟩, by have := HKQ.out; rw [show x.f4.length - q = k + 1 by omega]; simp [hw2], ?_, kt, bt, tt⟩
                  rw [show x.f4.length - q = k + 1 by have := HKQ.out; omega]
                  exact st
end Go.Proofs.YtagadehcbpoihaaDoor.Raw5

namespace Go.Proofs.YtagadehcbpoihaaDoor.Raw5
open Go.RowKit Go.Proofs.YtagadehcbpoihaaDoorW.PrintWords Go.Proofs.YtagadehcbpoihaaDoorW.PrintLast Go.Proofs.YtagadehcbpoihaaDoorW.PrintMore Go.Proofs.YtagadehcbpoihaaDoorN Go.Proofs.YtagadehcbpoihaaDoor.Str Go.Proofs.YtagadehcbpoihaaDoor.Sane5 Go.Proofs.YtagadehcbpoihaaDoor.QSo
set_option linter.unusedVariables false
set_option linter.unusedSimpArgs false
/-- A row of one's own stays, where blocks of its types do. -/
theorem R_KX {α : Type} {d : Kd α} {e base : Nat} {ok : Nat → Prop} {w w1 : World} {v : Value} {xs : List α} {l : List TypeId} (h : d.R e w base ok v xs) (hk : KX l w w1) (hl : ∀ q, q ∈ e :: d.E → q ∉ l) : d.R e w1 base ok v xs :=
  Kd.R_mono (Kd.R_move (Kd.R_bound h) (fun k hk2 => by
    obtain ⟨_, _, _, q, hq, cells, hc⟩ := hk2
    rw [hk k cells q (hl q hq) hc, hc])) (fun k hk2 => hk2.1)
theorem M_KX {α : Type} {d : Kd α} {base : Nat} {ok : Nat → Prop} {w w1 : World} {x : α} {c : List Value} {l : List TypeId} (h : d.M w base ok x c) (hk : KX l w w1) (hl : ∀ q, q ∈ d.E → q ∉ l) : d.M w1 base ok x c :=
  d.M_mono (fun k hk2 => hk2.1) (d.M_move (fun k hk2 => by
    obtain ⟨_, _, _, q, hq, cells, hc⟩ := hk2
    rw [hk k cells q (hl q hq) hc, hc]) (d.M_bound h))
theorem E34 : k34.E = [89, 3] := rfl
theorem E89 : k89.E = [3] := rfl
/-- What File, Macro and Wait leave. -/
def PP (sb B : Nat) (fs : List Fm) (ok : Bool) (k : Int) (nm : ByteArray) (xs : List S34) (args : List ByteArray) (e : Ending) (w w' : World) : Prop :=
  (KX [56] w w' ∧ Below B w w') ∧ ((ok = false ∧ e = .returned (.int .i64 1) ∧ Stk sb B (fs.map Fm.row) w') ∨ (ok = true ∧ 50 ≤ tn fs fs.length ∧ e = .returned (.int .i64 2) ∧ Stk sb B (fs.map Fm.row) w') ∨
    (ok = true ∧ tn fs fs.length < 50 ∧ e = .returned (.int .i64 0) ∧ ∃ A c Aa na ca, xs.length ≤ c ∧ Stk sb B ((fs.take (tn fs fs.length) ++ [Fm.mk k nm A xs.length c 0 Aa na ca]).map Fm.row) w' ∧ Kd.R k34 34 w' w.heap.size (fun _ => True) (.slice A xs.length c) xs ∧ Kd.R Kd.string 9 w' w.heap.size (fun _ => True) (.slice Aa na ca) args))
/-- push, said so. -/
theorem push_pp (sb B : Nat) (fs : List Fm) (hsz : fs.length ≤ 900) (k : Int) (nm : ByteArray) (xs : List S34) (args : List ByteArray) (A : Option Addr) (c : Nat) (hc : xs.length ≤ c) (Aa : Option Addr) (na ca : Nat) (w0 w : World) (h : Stk sb B (fs.map Fm.row) w)
    (hR : Kd.R k34 34 w w0.heap.size (fun _ => True) (.slice A xs.length c) xs) (hA : Kd.R Kd.string 9 w w0.heap.size (fun _ => True) (.slice Aa na ca) args) (hk : KX [56] w0 w) (hb : Below B w0 w) :
    Calls Tryd.prog 34 #[.pointer (some ⟨sb, 0, none⟩), .agg (Fm.mk k nm A xs.length c 0 Aa na ca).row.toArray] w fun e w' => PP sb B fs true k nm xs args e w0 w' ∧ ∃ v, e = .returned (.int .i64 v) := by
  obtain ⟨gf, cf, A0, hcel, _, _⟩ := Cel.of h
  refine (push_any sb B ⟨k, nm, A, xs.length, c, 0, Aa, na, ca⟩ fs hsz w h).mono ?_
  rintro e w' ⟨he, hk2, hb2⟩
  have kx : KX [56] w w' := KX.of_kept hk2 hcel.hV (by simp)
  refine ⟨⟨⟨hk.trans kx, hb.trans hb2⟩, ?_⟩, ?_⟩
  · rcases he with ⟨h1, h2, h3⟩ | ⟨h1, h2, h3⟩
    · exact Or.inr (Or.inl ⟨rfl, h1, h2, h3⟩)
    · refine Or.inr (Or.inr ⟨rfl, h1, h2, A, c, Aa, na, ca, hc, by rw [List.map_append]; exact h3, R_KX hR kx (by rw [E34]; decide), R_KX hA kx (by decide)⟩)
  · rcases he with ⟨_, h2, _⟩ | ⟨_, h2, _⟩ <;> exact ⟨_, h2⟩
/-- No push: an argument that can't be. -/
theorem no_pp (sb B : Nat) (fs : List Fm) (k : Int) (nm : ByteArray) (xs : List S34) (args : List ByteArray) {w0 w : World} (h : Stk sb B (fs.map Fm.row) w) (hk : KX [56] w0 w) (hb : Below B w0 w) : PP sb B fs false k nm xs args (.returned (.int .i64 1)) w0 w :=
  ⟨⟨hk, hb⟩, Or.inl ⟨rfl, rfl, h⟩⟩
set_option maxHeartbeats 4000000 in
set_option maxRecDepth 100000 in
theorem file_any (sb B : Nat) (fs : List Fm) (hsz : fs.length ≤ 900) (nm body : ByteArray) (k : Nat) (xs : List S34) (b nb : Bool) (ht : source_text.f k body = some (xs, b)) (hn : source_named.f nm = some nb) (w : World) (h : Stk sb B (fs.map Fm.row) w) :
    Calls Tryd.prog 18 #[.pointer (some ⟨sb, 0, none⟩), .string nm, .string body] w fun e w' => PP sb B fs (nb && b) 1 nm xs [] e w w' := by
  have HT := Aside0.mk (source_text.calls k body xs b w ht)
  have HN := Aside0.mk (fun W => source_named.calls nm nb W hn)
  have HP := Aside0.mk (fun A c hc w0 W h1 h2 h3 h4 => push_pp sb B fs hsz 1 nm xs [] A c hc none 0 0 w0 W h1 h2 (Kd.R_nil _ _ _ _ _) h3 h4)
  have H := Aside0.mk h
  obtain ⟨gf, cf, A0, hcel, _, _⟩ := Cel.of h
  have HV := Aside0.mk hcel.hV
  clear ht hn h hcel hsz
  go_enter Tryd.func18, Tryd.ntmps18
  cases nb with
  | false =>
    go_wp2_with (first | (go_at_call 38; refine (HT.out).mono ?_; rintro e w2 ⟨v2, rfl, hr2, hb2⟩; obtain ⟨A2, c2, e2⟩ := Kd.R_slice hr2; subst e2; have R2 := Aside0.mk hr2; have B2 := Aside0.mk hb2; have S2 := Aside0.mk (H.out.below hb2); have V2 := Aside0.mk (blk_below HV.out hb2); clear hr2 hb2) | (go_at_call 31; refine (none_calls sb _ _ V2.out).mono ?_; rintro e w3 ⟨rfl, rfl⟩) | (go_at_call 32; refine (HN.out _).mono ?_; rintro e w4 ⟨rfl, hd⟩; have B4 := Aside0.mk (B2.out.trans (hd.below.mono B2.out.size)); have S4 := Aside0.mk (S2.out.below hd.below); have R4 := Aside0.mk (Kd.R_below R2.out hd.below); clear hd))
    refine bodyPost_ret (results_tmp rfl _ _ _) rfl ?_
    exact no_pp sb B fs 1 nm xs [] S4.out (KX.of_below B4.out) (B4.out.mono H.out.hB)
  | true =>
    cases b with
    | false =>
      go_wp2_with (first | (go_at_call 38; refine (HT.out).mono ?_; rintro e w2 ⟨v2, rfl, hr2, hb2⟩; obtain ⟨A2, c2, e2⟩ := Kd.R_slice hr2; subst e2; have R2 := Aside0.mk hr2; have B2 := Aside0.mk hb2; have S2 := Aside0.mk (H.out.below hb2); have V2 := Aside0.mk (blk_below HV.out hb2); clear hr2 hb2) | (go_at_call 31; refine (none_calls sb _ _ V2.out).mono ?_; rintro e w3 ⟨rfl, rfl⟩) | (go_at_call 32; refine (HN.out _).mono ?_; rintro e w4 ⟨rfl, hd⟩; have B4 := Aside0.mk (B2.out.trans (hd.below.mono B2.out.size)); have S4 := Aside0.mk (S2.out.below hd.below); have R4 := Aside0.mk (Kd.R_below R2.out hd.below); clear hd))
      refine bodyPost_ret (results_tmp rfl _ _ _) rfl ?_
      exact no_pp sb B fs 1 nm xs [] S4.out (KX.of_below B4.out) (B4.out.mono H.out.hB)
    | true =>
      go_wp2_with (first | (go_at_call 38; refine (HT.out).mono ?_; rintro e w2 ⟨v2, rfl, hr2, hb2⟩; obtain ⟨A2, c2, e2⟩ := Kd.R_slice hr2; subst e2; have R2 := Aside0.mk hr2; have B2 := Aside0.mk hb2; have S2 := Aside0.mk (H.out.below hb2); have V2 := Aside0.mk (blk_below HV.out hb2); clear hr2 hb2) | (go_at_call 31; refine (none_calls sb _ _ V2.out).mono ?_; rintro e w3 ⟨rfl, rfl⟩) | (go_at_call 32; refine (HN.out _).mono ?_; rintro e w4 ⟨rfl, hd⟩; have B4 := Aside0.mk (B2.out.trans (hd.below.mono B2.out.size)); have S4 := Aside0.mk (S2.out.below hd.below); have R4 := Aside0.mk (Kd.R_below R2.out hd.below); clear hd) | (go_at_call 34; refine (HP.out A2 c2 (Kd.R_reads' R4.out).2.1 w _ S4.out R4.out (KX.of_below B4.out) (B4.out.mono H.out.hB)).mono ?_; rintro e w8 ⟨hp8, v8, rfl⟩; have P8 := Aside0.mk hp8; clear hp8))
      refine bodyPost_ret (results_tmp rfl _ _ _) rfl ?_
      exact P8.out
set_option maxHeartbeats 4000000 in
set_option maxRecDepth 100000 in
theorem macro_pp (sb B : Nat) (fs : List Fm) (hsz : fs.length ≤ 900) (nm : ByteArray) (xs : List S34) (args : List ByteArray) (A : Option Addr) (c : Nat) (Aa : Option Addr) (ca k : Nat) (gb nb : Bool) (hn : source_named.f nm = some nb) (hg : source_good.f k xs = some gb) (hlo : gb = true → ∀ x ∈ xs, LineOk x) (hax : slices_Clone_string_string.f args = some args) (w : World) (h : Stk sb B (fs.map Fm.row) w)
    (hC : Kd.C k34 w A xs.length xs) (hc : xs.length ≤ c) (hA : Kd.C Kd.string w Aa args.length args) (hca : args.length ≤ ca) :
    Calls Tryd.prog 13 #[.pointer (some ⟨sb, 0, none⟩), .string nm, .slice A xs.length c, .slice Aa args.length ca] w fun e w' => PP sb B fs (nb && gb) 2 nm xs args e w w' := by
  have HN := Aside0.mk (fun W => source_named.calls nm nb W hn)
  have HG := Aside0.mk (fun W hC => source_good.calls k A c xs gb W hC hc hg)
  have H := Aside0.mk h
  obtain ⟨gf, cf, A0, hcel, _, _⟩ := Cel.of h
  have HV := Aside0.mk hcel.hV
  have HC := Aside0.mk hC
  have HA := Aside0.mk hA
  have HAC := Aside0.mk (fun W hC => slices_Clone_string_string.calls Aa ca args args W hC hca hax)
  have HP := Aside0.mk (fun A c hc Aa na ca w0 W h1 h2 h3 h4 h5 => push_pp sb B fs hsz 2 nm xs args A c hc Aa na ca w0 W h1 h2 h3 h4 h5)
  have hn2 : gb = true → xs.length ≤ 1000000 := by
    intro e
    subst e
    unfold source_good.f at hg
    split at hg
    · omega
    · cases hg
  have HOW := Aside0.mk (fun (e : gb = true) W hC => own_any A c xs W hC hc (hn2 e) (hlo e))
  clear hn hg h hcel hsz hC hA hlo hn2
  go_enter Tryd.func13, Tryd.ntmps13
  cases nb with
  | false =>
    go_wp2_with (first | (go_at_call 31; refine (none_calls sb _ _ HV.out).mono ?_; rintro e w3 ⟨rfl, rfl⟩) | (go_at_call 32; refine (HN.out _).mono ?_; rintro e w4 ⟨rfl, hd⟩; have B4 := Aside0.mk hd.below; clear hd))
    refine bodyPost_ret (results_tmp rfl _ _ _) rfl ?_
    exact no_pp sb B fs 2 nm xs args (H.out.below B4.out) (KX.of_below B4.out) (B4.out.mono H.out.hB)
  | true =>
    cases gb with
    | false =>
      go_wp2_with (first | (go_at_call 31; refine (none_calls sb _ _ HV.out).mono ?_; rintro e w3 ⟨rfl, rfl⟩) | (go_at_call 32; refine (HN.out _).mono ?_; rintro e w4 ⟨rfl, hd⟩; have B4 := Aside0.mk hd.below; clear hd) | (go_at_call 33; refine (HG.out _ (Kd.C_below HC.out B4.out)).mono ?_; rintro e w5 ⟨rfl, hd⟩; have B5 := Aside0.mk (B4.out.trans ((hd).mono B4.out.size)); clear hd))
      refine bodyPost_ret (results_tmp rfl _ _ _) rfl ?_
      exact no_pp sb B fs 2 nm xs args (H.out.below B5.out) (KX.of_below B5.out) (B5.out.mono H.out.hB)
    | true =>
      have HO := Aside0.mk (HOW.out rfl)
      go_wp2_with (first | (go_at_call 31; refine (none_calls sb _ _ HV.out).mono ?_; rintro e w3 ⟨rfl, rfl⟩) | (go_at_call 32; refine (HN.out _).mono ?_; rintro e w4 ⟨rfl, hd⟩; have B4 := Aside0.mk hd.below; clear hd) | (go_at_call 33; refine (HG.out _ (Kd.C_below HC.out B4.out)).mono ?_; rintro e w5 ⟨rfl, hd⟩; have B5 := Aside0.mk (B4.out.trans ((hd).mono B4.out.size)); clear hd) | (go_at_call 35; refine (HO.out _ (Kd.C_below HC.out B5.out)).mono ?_; rintro e w6 ⟨v6, rfl, hr6, hb6⟩; obtain ⟨A6, c6, e6⟩ := Kd.R_slice hr6; subst e6; have R6 := Aside0.mk hr6; have B6 := Aside0.mk (B5.out.trans (hb6.mono B5.out.size)); clear hr6 hb6) | (go_at_call 36; refine (HAC.out _ (Kd.C_below HA.out B6.out)).mono ?_; rintro e w7 ⟨v7, rfl, hr7, hb7⟩; obtain ⟨A7, c7, e7⟩ := Kd.R_slice hr7; subst e7; have R7 := Aside0.mk hr7; have B7 := Aside0.mk (B6.out.trans (hb7.mono B6.out.size)); have Q7 := Aside0.mk (Kd.R_below R6.out hb7); clear hr7 hb7) | (go_at_call 34; refine (HP.out A6 c6 (Kd.R_reads' Q7.out).2.1 A7 args.length c7 _ _ (H.out.below B7.out) (Kd.R_lower Q7.out B5.out.size) (Kd.R_lower R7.out B6.out.size) (KX.of_below B7.out) (B7.out.mono H.out.hB)).mono ?_; rintro e w8 ⟨hp8, v8, rfl⟩; have P8 := Aside0.mk hp8; clear hp8))
      refine bodyPost_ret (results_tmp rfl _ _ _) rfl ?_
      exact P8.out
set_option maxHeartbeats 4000000 in
set_option maxRecDepth 100000 in
theorem wait_pp (sb B : Nat) (fs : List Fm) (hsz : fs.length ≤ 900) (xs : List S34) (A : Option Addr) (c k : Nat) (gb : Bool) (hg : source_good.f k xs = some gb) (hlo : gb = true → ∀ x ∈ xs, LineOk x) (w : World) (h : Stk sb B (fs.map Fm.row) w)
    (hC : Kd.C k34 w A xs.length xs) (hc : xs.length ≤ c) :
    Calls Tryd.prog 15 #[.pointer (some ⟨sb, 0, none⟩), .slice A xs.length c] w fun e w' => PP sb B fs gb 3 ⟨#[]⟩ xs [] e w w' := by
  have HG := Aside0.mk (fun W hC => source_good.calls k A c xs gb W hC hc hg)
  have H := Aside0.mk h
  obtain ⟨gf, cf, A0, hcel, _, _⟩ := Cel.of h
  have HV := Aside0.mk hcel.hV
  have HC := Aside0.mk hC
  have HP := Aside0.mk (fun A c hc w0 W h1 h2 h4 h5 => push_pp sb B fs hsz 3 ⟨#[]⟩ xs [] A c hc none 0 0 w0 W h1 h2 (Kd.R_nil _ _ _ _ _) h4 h5)
  have hn2 : gb = true → xs.length ≤ 1000000 := by
    intro e
    subst e
    unfold source_good.f at hg
    split at hg
    · omega
    · cases hg
  have HOW := Aside0.mk (fun (e : gb = true) W hC => own_any A c xs W hC hc (hn2 e) (hlo e))
  clear hg h hcel hsz hC hlo hn2
  go_enter Tryd.func15, Tryd.ntmps15
  cases gb with
  | false =>
    go_wp2_with (first | (go_at_call 31; refine (none_calls sb _ _ HV.out).mono ?_; rintro e w3 ⟨rfl, rfl⟩) | (go_at_call 33; refine (HG.out _ HC.out).mono ?_; rintro e w5 ⟨rfl, hd⟩; have B5 := Aside0.mk (hd); clear hd))
    refine bodyPost_ret (results_tmp rfl _ _ _) rfl ?_
    exact no_pp sb B fs 3 ⟨#[]⟩ xs [] (H.out.below B5.out) (KX.of_below B5.out) (B5.out.mono H.out.hB)
  | true =>
    have HO := Aside0.mk (HOW.out rfl)
    go_wp2_with (first | (go_at_call 31; refine (none_calls sb _ _ HV.out).mono ?_; rintro e w3 ⟨rfl, rfl⟩) | (go_at_call 33; refine (HG.out _ HC.out).mono ?_; rintro e w5 ⟨rfl, hd⟩; have B5 := Aside0.mk (hd); clear hd) | (go_at_call 35; refine (HO.out _ (Kd.C_below HC.out B5.out)).mono ?_; rintro e w6 ⟨v6, rfl, hr6, hb6⟩; obtain ⟨A6, c6, e6⟩ := Kd.R_slice hr6; subst e6; have R6 := Aside0.mk hr6; have B6 := Aside0.mk (B5.out.trans (hb6.mono B5.out.size)); clear hr6 hb6) | (go_at_call 34; refine (HP.out A6 c6 (Kd.R_reads' R6.out).2.1 _ _ (H.out.below B6.out) (Kd.R_lower R6.out B5.out.size) (KX.of_below B6.out) (B6.out.mono H.out.hB)).mono ?_; rintro e w8 ⟨hp8, v8, rfl⟩; have P8 := Aside0.mk hp8; clear hp8))
    refine bodyPost_ret (results_tmp rfl _ _ _) rfl ?_
    exact P8.out
end Go.Proofs.YtagadehcbpoihaaDoor.Raw5

namespace Go.Proofs.YtagadehcbpoihaaDoor.Raw5
open Go.RowKit Go.Proofs.YtagadehcbpoihaaDoorW.PrintWords Go.Proofs.YtagadehcbpoihaaDoorW.PrintLast Go.Proofs.YtagadehcbpoihaaDoorW.PrintMore Go.Proofs.YtagadehcbpoihaaDoorN Go.Proofs.YtagadehcbpoihaaDoor.Str Go.Proofs.YtagadehcbpoihaaDoor.Sane5 Go.Proofs.YtagadehcbpoihaaDoor.QSo
set_option linter.unusedVariables false
set_option linter.unusedSimpArgs false
theorem raw_of_R1 {α : Type} {d : Kd α} {e base : Nat} {ok : Nat → Prop} {w : World} {v : Value} {x : α} (h : d.R e w base ok v [x]) : ∃ c, (Kd.raw d.sz).R e w base ok v [c] ∧ d.M w base (fun k => ok k ∧ some k ≠ v.ownBlock) x c := by
  obtain ⟨h0, inner, ho, hr⟩ := h
  have h2 := hr.2 0 x rfl
  have hK := d.K_of_M h2
  refine ⟨(inner.drop (0 * d.sz)).take d.sz, ⟨h0, inner, ho, hr.1, fun j c hj => ?_⟩, h2⟩
  cases j with
  | succ j => simp at hj
  | zero =>
    obtain rfl : (inner.drop (0 * d.sz)).take d.sz = c := by simpa using hj
    exact ⟨rfl, d.K_len hK, d.K_one hK⟩
theorem C_one {α : Type} {d : Kd α} {w : World} {gl m : Nat} {xs : List α} (h : d.C w (some ⟨gl, 0, none⟩) m xs) (i : Nat) (x : α) (hi : xs[i]? = some x) : d.C w (some ⟨gl, i * d.sz, none⟩) 1 [x] := by
  have hlt := (List.getElem?_eq_some_iff.1 hi).1
  obtain ⟨ad, ha, hc⟩ := h.2.2 (by have := h.1; omega)
  obtain rfl := Option.some.inj ha
  obtain ⟨c, hl, hK, hcell⟩ := hc i x hi
  refine ⟨rfl, by decide, fun _ => ⟨_, rfl, fun j p hj => ?_⟩⟩
  cases j with
  | succ j => simp at hj
  | zero =>
    obtain rfl : x = p := by simpa using hj
    refine ⟨c, hl, hK, fun q u hu => ?_⟩
    have := hcell q u hu
    rw [add_at, Nat.zero_add] at this
    rw [add_at, Nat.zero_mul, Nat.zero_add]
    exact this
theorem next_pp (sb B : Nat) (fs : List Fm) (hsz : fs.length ≤ 900) (j i c : Nat) (k : Int) (nm : ByteArray) (A A4 : Option Addr) (n4 c4 : Nat) (xs : List S34) (x : S34)
    (hj : fs[j]? = some ⟨k, nm, A, xs.length, c, (i : Int), A4, n4, c4⟩) (hx : xs[i]? = some x) (hlen : xs.length ≤ 1000000) (hok : LineOk x) (hgone : ∀ (a : Nat) (g : Fm), j < a → fs[a]? = some g → g.over = true)
    (w : World) (h : Stk sb B (fs.map Fm.row) w) (hR : Kd.R k34 34 w 0 (fun _ => True) (.slice A xs.length c) xs) :
    Calls Tryd.prog 16 #[.pointer (some ⟨sb, 0, none⟩)] w fun e w' => (∃ Ab nb cb, e = .returned (.tuple #[.agg (ln5 x.f0 x.f1 x.f2 x.f3 Ab nb cb).toArray, .int .i64 0]) ∧ Kd.R k89 89 w' 0 (fun _ => True) (.slice Ab nb cb) x.f4) ∧ Stk sb B (((fs.take (j + 1)).set j ⟨k, nm, A, xs.length, c, (i : Int) + 1, A4, n4, c4⟩).map Fm.row) w' ∧ KX [56, 68] w w' ∧ Below B w w' := by
  have hi : i < xs.length := (List.getElem?_eq_some_iff.1 hx).1
  have hr := Kd.R_reads' hR
  obtain ⟨ad, hA, _⟩ := hr.2.2.2.2 (by omega)
  subst hA
  obtain ⟨gl, rfl⟩ := Kd.R_head hR
  refine (next_any sb B fs hsz j gl i xs.length c k nm A4 n4 c4 hj hi (by omega) hr.2.1 hgone (fun y W => k34.M W 0 (fun _ => True) x y) (fun y W W' hk hm => M_KX hm hk (by rw [E34]; decide)) w h (fun W hW => ?_)).mono ?_
  · have hRW := R_KX hR hW (by rw [E34]; decide)
    have hC1 := C_one (Kd.R_reads' hRW).2.2 i x hx
    refine (own_any (some ⟨gl, i * 5, none⟩) (c - i) [x] W hC1 (by have := hr.2.1; simp only [List.length_singleton]; omega) (by simp) (fun y hy => by simp at hy; rw [hy]; exact hok)).mono ?_
    rintro e w' ⟨v, rfl, hr2, hb2⟩
    obtain ⟨cl, hraw, hM⟩ := raw_of_R1 hr2
    obtain ⟨v4, hcl, hR4⟩ := k34_openM hM
    obtain ⟨Ab, cb, rfl⟩ := Kd.R_slice hR4
    subst hcl
    exact ⟨v, x.f0, x.f1, x.f2, x.f3, Ab, x.f4.length, cb, rfl, hraw, k34.M_lower (Nat.zero_le _) (k34.M_mono (fun _ _ => trivial) hM), hb2⟩
  · rintro e w' ⟨⟨t, md, up, dn, Ab, nb, cb, rfl, hq⟩, hs, hkx, hb⟩
    obtain ⟨v4, hcl, hR4⟩ := k34_openM hq
    simp only [ln5, List.cons.injEq, Value.string.injEq, Value.bool.injEq, Value.int.injEq, true_and, and_true] at hcl
    obtain ⟨rfl, rfl, rfl, rfl, rfl⟩ := hcl
    exact ⟨⟨Ab, nb, cb, rfl, hR4⟩, hs, hkx, hb⟩
set_option maxHeartbeats 4000000 in
set_option maxRecDepth 100000 in
theorem next_none (sb B : Nat) (fs : List Fm) (hsz : fs.length ≤ 900) (hgone : ∀ (a : Nat) (g : Fm), fs[a]? = some g → g.over = true) (w : World) (h : Stk sb B (fs.map Fm.row) w) :
    Calls Tryd.prog 16 #[.pointer (some ⟨sb, 0, none⟩)] w fun e w' => e = .returned (.tuple #[.agg (ln ⟨#[]⟩).toArray, .int .i64 3]) ∧ Stk sb B [] w' ∧ KX [56, 68] w w' ∧ Below B w w' := by
  obtain ⟨gf, cf, A, hcel, hlef, hRf⟩ := Cel.of h
  have H := Aside0.mk h
  have HC := Aside0.mk hcel
  have HSZ := Aside0.mk hsz
  have HG := Aside0.mk hgone
  have HNO := Aside0.mk (fun W h => none_calls sb (.slice A fs.length cf) W h)
  have hu68 := Tryd.underlying68
  have hu34 := Tryd.underlying34
  have HV := Aside0.mk hcel.hV
  clear h hcel hRf hlef hsz hgone
  go_enter Tryd.func16, Tryd.ntmps16
  have sA : ∀ o, (w.alloc o).cell? ⟨sb, 0, none⟩ = some (.slice A fs.length cf) := fun o => (blk_cell (blk_alloc HV.out o) 0).trans rfl
  go_wp2_with (first | (go_at_call 31; refine (HNO.out _ (blk_alloc HV.out _)).mono ?_; rintro e w2 ⟨rfl, rfl⟩))
  have ZN := Aside0.mk (blk_new w (.cells #[.string ⟨#[]⟩, .bool false, .int .i64 0, .int .i64 0, .slice none 0 0] 34))
  have BA := Aside0.mk (below_alloc (Below.refl w.heap.size w) (.cells #[.string ⟨#[]⟩, .bool false, .int .i64 0, .int .i64 0, .slice none 0 0] 34))
  go_loopg [4] (fs.length) (fun kq v4 w' => v4 = .int .i64 (kq : Int) ∧ Aside0 (kq ≤ fs.length) ∧ Aside0 (Below (w.alloc (.cells #[.string ⟨#[]⟩, .bool false, .int .i64 0, .int .i64 0, .slice none 0 0] 34)).heap.size (w.alloc (.cells #[.string ⟨#[]⟩, .bool false, .int .i64 0, .int .i64 0, .slice none 0 0] 34)) w'))
  case atStart => exact ⟨rfl, ⟨Nat.le_refl _⟩, ⟨Below.refl _ _⟩⟩
  case round =>
    obtain ⟨rfl, L5, B5⟩ := hrel
    have V5 := (HC.out.alloc (.cells #[.string ⟨#[]⟩, .bool false, .int .i64 0, .int .i64 0, .slice none 0 0] 34)).below B5.out
    cases gk with
    | zero =>
      have s5 : wr.cell? ⟨sb, 0, none⟩ = some (.slice A fs.length cf) := (blk_cell V5.hV 0).trans rfl
      have z5 : wr.frozen? ⟨sb, 0, none⟩ = false := blk_frozen V5.hV 0
      have S6 := Aside0.mk (blk_put V5.hV 0 (.slice none 0 0) (cs' := #[.slice none 0 0, .bool true]) rfl)
      have Z5 := blk_below ZN.out B5.out
      have N2 : w.heap.size ≠ sb := fun e => by obtain h8 := blk_lt HV.out; omega
      have Z6 := Aside0.mk (blk_far (p := ⟨sb, 0, none⟩) Z5 N2 (.slice none 0 0))
      have b5 := Aside0.mk (BA.out.trans (B5.out.mono BA.out.size))
      have X6 := Aside0.mk (((KX.of_below BA.out).trans (KX.of_below B5.out) : KX [56, 68] w wr).set (p := ⟨sb, 0, none⟩) V5.hV (by simp) (.slice none 0 0))
      have B6 := Aside0.mk ((b5.out.mono H.out.hB).setCell (p := ⟨sb, 0, none⟩) H.out.hs (.slice none 0 0))
      have p0 : (wr.setCell ⟨sb, 0, none⟩ (.slice none 0 0)).cell? ⟨w.heap.size, 0, none⟩ = some (.string ⟨#[]⟩) := (blk_cell Z6.out 0).trans rfl
      have y0 : (wr.setCell ⟨sb, 0, none⟩ (.slice none 0 0)).frozen? ⟨w.heap.size, 0, none⟩ = false := blk_frozen Z6.out 0
      have p1 : (wr.setCell ⟨sb, 0, none⟩ (.slice none 0 0)).cell? ⟨w.heap.size, 1, none⟩ = some (.bool false) := (blk_cell Z6.out 1).trans rfl
      have y1 : (wr.setCell ⟨sb, 0, none⟩ (.slice none 0 0)).frozen? ⟨w.heap.size, 1, none⟩ = false := blk_frozen Z6.out 1
      have p2 : (wr.setCell ⟨sb, 0, none⟩ (.slice none 0 0)).cell? ⟨w.heap.size, 2, none⟩ = some (.int .i64 0) := (blk_cell Z6.out 2).trans rfl
      have y2 : (wr.setCell ⟨sb, 0, none⟩ (.slice none 0 0)).frozen? ⟨w.heap.size, 2, none⟩ = false := blk_frozen Z6.out 2
      have p3 : (wr.setCell ⟨sb, 0, none⟩ (.slice none 0 0)).cell? ⟨w.heap.size, 3, none⟩ = some (.int .i64 0) := (blk_cell Z6.out 3).trans rfl
      have y3 : (wr.setCell ⟨sb, 0, none⟩ (.slice none 0 0)).frozen? ⟨w.heap.size, 3, none⟩ = false := blk_frozen Z6.out 3
      have p4 : (wr.setCell ⟨sb, 0, none⟩ (.slice none 0 0)).cell? ⟨w.heap.size, 4, none⟩ = some (.slice none 0 0) := (blk_cell Z6.out 4).trans rfl
      have y4 : (wr.setCell ⟨sb, 0, none⟩ (.slice none 0 0)).frozen? ⟨w.heap.size, 4, none⟩ = false := blk_frozen Z6.out 4
      clear Z5 V5
      go_wp2
      obtain ⟨W, hW⟩ : ∃ W, wr.setCell ⟨sb, 0, none⟩ (.slice none 0 0) = W := ⟨_, rfl⟩
      rw [hW] at S6 Z6 X6 B6 ⊢
      refine bodyPost_ret (results_ct rfl _ _ w.heap.size 34 (ln5 ⟨#[]⟩ false 0 0 none 0 0).toArray (0, 0) _ rfl (fivv_at W w.heap.size ⟨#[]⟩ false 0 0 none 0 0 Z6.out) Tryd.underlying34 rfl (by kernel_rfl)) rfl ?_
      have bf := fivv_below W w.heap.size ⟨#[]⟩ false 0 0 none 0 0 B6.out H.out.hB
      refine ⟨rfl, ⟨⟨_, (fivv_far W w.heap.size ⟨#[]⟩ false 0 0 none 0 0 sb N2.symm).trans S6.out, Kd.R_nil _ _ _ _ _⟩, Nat.le_trans H.out.hB bf.size, H.out.hs⟩, ?_, bf⟩
      intro k cs ty hty hk
      have h7 : k ≠ w.heap.size := fun e => by have h8 := blk_lt hk; omega
      exact (fivv_far W w.heap.size ⟨#[]⟩ false 0 0 none 0 0 k h7).trans (X6.out k cs ty hty hk)
    | succ n =>
      obtain ⟨cs, hcs, hcc⟩ := V5.hF (by have := L5.out; omega)
      have hwn : wrap64 (n : Int) = (n : Int) := by have := L5.out; have := HSZ.out; unfold wrap64; omega
      have hn1 : ((n : Int) < (fs.length : Int)) = True := eq_true (by have := L5.out; omega)
      have hA := V5.hA (by have := L5.out; omega)
      subst hA
      have s5 : wr.cell? ⟨sb, 0, none⟩ = some (.slice (some ⟨gf, 0, none⟩) fs.length cf) := (blk_cell V5.hV 0).trans rfl
      obtain ⟨g, hg⟩ : ∃ g, fs[n]? = some g := ⟨_, List.getElem?_eq_getElem L5.out⟩
      have q0 : wr.cell? ⟨gf, n * 5, none⟩ = some (.int .i64 g.k) := (blk_cell hcs _).trans (hcc n g hg 0 _ rfl)
      have q1 : wr.cell? ⟨gf, n * 5 + 1, none⟩ = some (.string g.nm) := (blk_cell hcs _).trans (hcc n g hg 1 _ rfl)
      have q2 : wr.cell? ⟨gf, n * 5 + 2, none⟩ = some (.slice g.A g.m g.c) := (blk_cell hcs _).trans (hcc n g hg 2 _ rfl)
      have q3 : wr.cell? ⟨gf, n * 5 + 3, none⟩ = some (.int .i64 g.at_) := (blk_cell hcs _).trans (hcc n g hg 3 _ rfl)
      have q4 : wr.cell? ⟨gf, n * 5 + 4, none⟩ = some (.slice g.Aa g.na g.ca) := (blk_cell hcs _).trans (hcc n g hg 4 _ rfl)
      have HD := Aside0.mk (fun W => done_fm g W)
      rw [HG.out n g hg] at HD
      clear hcs hcc V5 hg
      go_wp2_with (first | (go_at_call 37; refine (HD.out _).mono ?_; rintro e w6 ⟨rfl, hb6⟩; have B6 := Aside0.mk (B5.out.trans (hb6.mono B5.out.size)); clear hb6))
      go_roundg n
      case measure => omega
      case rel => exact ⟨by rw [hwn], ⟨by have := L5.out; omega⟩, B6⟩
end Go.Proofs.YtagadehcbpoihaaDoor.Raw5

namespace Go.Proofs.YtagadehcbpoihaaDoor.Raw5
open Go.RowKit Go.Proofs.YtagadehcbpoihaaDoorW.PrintWords Go.Proofs.YtagadehcbpoihaaDoorW.PrintLast Go.Proofs.YtagadehcbpoihaaDoorW.PrintMore Go.Proofs.YtagadehcbpoihaaDoorN Go.Proofs.YtagadehcbpoihaaDoor.Str Go.Proofs.YtagadehcbpoihaaDoor.Sane5 Go.Proofs.YtagadehcbpoihaaDoor.QSo
set_option linter.unusedVariables false
set_option linter.unusedSimpArgs false
def bx : List Value := [.string ⟨#[]⟩, .bool false, .int .i64 0, .int .i64 0, .slice none 0 0]
theorem Stk.fivv {sb B g : Nat} {rows : List (List Value)} {w : World} {cs : Array Value} (h : Stk sb B rows w) (hz : w.heap[g]? = some (.cells cs 34 (0, 0))) (hg : B ≤ g) (t : ByteArray) (md : Bool) (up dn : Int) (Ab : Option Addr) (nb cb : Nat) : Stk sb B rows (fivv w g t md up dn Ab nb cb) := by
  obtain ⟨⟨v, hv, hR⟩, hB, hs⟩ := h
  have h1 : sb ≠ g := blk_ne hv hz (by decide)
  refine ⟨⟨v, (fivv_far w g t md up dn Ab nb cb sb h1).trans hv, raw_kept hR (fun k hk => ?_)⟩, ?_, hs⟩
  · obtain ⟨cs2, hc2⟩ := Kd.R_typed hR k hk
    exact fivv_far w g t md up dn Ab nb cb k (blk_ne hc2 hz (by decide))
  · have := (fivv_below w g t md up dn Ab nb cb (Below.refl B w) hg).size
    omega
theorem R_fivv {α : Type} {d : Kd α} {e base g : Nat} {w : World} {v : Value} {xs : List α} (h : d.R e w base (fun _ => True) v xs) (hg : g < base) (t : ByteArray) (md : Bool) (up dn : Int) (Ab : Option Addr) (nb cb : Nat) : d.R e (fivv w g t md up dn Ab nb cb) base (fun _ => True) v xs :=
  Kd.R_mono (Kd.R_move (Kd.R_bound h) (fun k hk => fivv_far w g t md up dn Ab nb cb k (by have := hk.2.1; omega))) (fun _ _ => trivial)
theorem PP.fivv {sb B g : Nat} {fs : List Fm} {ok : Bool} {k : Int} {nm : ByteArray} {xs : List S34} {args : List ByteArray} {e : Ending} {w0 w w' : World} {cs : Array Value} (h : PP sb B fs ok k nm xs args e w w') (hk0 : KX [56] w0 w) (hb0 : Below B w0 w) (hs : w0.heap.size ≤ g) (hgw : g < w.heap.size) (hB : B ≤ w0.heap.size)
    (hz : w'.heap[g]? = some (.cells cs 34 (0, 0))) (t : ByteArray) (md : Bool) (up dn : Int) (Ab : Option Addr) (nb cb : Nat) : PP sb B fs ok k nm xs args e w0 (fivv w' g t md up dn Ab nb cb) := by
  obtain ⟨⟨hk, hb⟩, h⟩ := h
  refine ⟨⟨?_, hb0.trans (fivv_below w' g t md up dn Ab nb cb hb (by omega))⟩, ?_⟩
  · intro q c ty hty hq
    have h7 : q ≠ g := fun e => by have h8 := blk_lt hq; omega
    exact (fivv_far w' g t md up dn Ab nb cb q h7).trans (hk q c ty hty (hk0 q c ty hty hq))
  · rcases h with ⟨h1, h2, h3⟩ | ⟨h1, h2, h3, h4⟩ | ⟨h1, h2, h3, A, c, Aa, na, ca, h4, h5, h6, h7⟩
    · exact Or.inl ⟨h1, h2, Stk.fivv h3 hz (by omega) t md up dn Ab nb cb⟩
    · exact Or.inr (Or.inl ⟨h1, h2, h3, Stk.fivv h4 hz (by omega) t md up dn Ab nb cb⟩)
    · exact Or.inr (Or.inr ⟨h1, h2, h3, A, c, Aa, na, ca, h4, Stk.fivv h5 hz (by omega) t md up dn Ab nb cb, Kd.R_lower (R_fivv h6 hgw t md up dn Ab nb cb) (by omega), Kd.R_lower (R_fivv h7 hgw t md up dn Ab nb cb) (by omega)⟩)
theorem PP.val {sb B : Nat} {fs : List Fm} {ok : Bool} {k : Int} {nm : ByteArray} {xs : List S34} {args : List ByteArray} {e : Ending} {w w' : World} (h : PP sb B fs ok k nm xs args e w w') : ∃ v, e = .returned (.int .i64 v) := by
  rcases h.2 with ⟨_, h, _⟩ | ⟨_, _, h, _⟩ | ⟨_, _, h, _⟩ <;> exact ⟨_, h⟩
theorem sz1 (w : World) (o : Obj) : (w.alloc o).heap.size = w.heap.size + 1 := by show (w.heap.push _).size = _; rw [Array.size_push]
set_option maxHeartbeats 2000000 in
set_option maxRecDepth 100000 in
theorem dop0 (sb B : Nat) (fs : List Fm) (ok : Bool) (k : Int) (fnm : ByteArray) (xs : List S34) (args : List ByteArray) (nm s : ByteArray) (A3 : Option Addr) (n3 c3 : Nat) (A4 : Option Addr) (n4 c4 : Nat) (n5 : Int) (w : World) (h : Stk sb B (fs.map Fm.row) w)
    (HX : ∀ W, Below w.heap.size w W → Stk sb B (fs.map Fm.row) W → Calls Tryd.prog 18 #[.pointer (some ⟨sb, 0, none⟩), .string nm, .string s] W fun e w' => PP sb B fs ok k fnm xs args e W w') :
    Calls Tryd.prog 19 #[.pointer (some ⟨sb, 0, none⟩), .agg #[.int .i64 0, .string nm, .string s, .slice A3 n3 c3, .slice A4 n4 c4, .int .i64 n5]] w fun e w' => ∃ v, e = .returned (.tuple #[.agg bx.toArray, .int .i64 v]) ∧ PP sb B fs ok k fnm xs args (.returned (.int .i64 v)) w w' := by
  have hu34 := Tryd.underlying34
  have hu45 := Tryd.underlying45
  have hbx : bx = [.string ⟨#[]⟩, .bool false, .int .i64 0, .int .i64 0, .slice none 0 0] := rfl
  have e1 := sz1 w (.cells #[.int .i64 0, .string nm, .string s, .slice A3 n3 c3, .slice A4 n4 c4, .int .i64 n5] 45)
  have e2 := sz1 (w.alloc (.cells #[.int .i64 0, .string nm, .string s, .slice A3 n3 c3, .slice A4 n4 c4, .int .i64 n5] 45)) (.cells #[.string ⟨#[]⟩, .bool false, .int .i64 0, .int .i64 0, .slice none 0 0] 34)
  rw [e1] at e2
  have E2 := Aside0.mk e2
  have Z := blk_new (w.alloc (.cells #[.int .i64 0, .string nm, .string s, .slice A3 n3 c3, .slice A4 n4 c4, .int .i64 n5] 45)) (.cells #[.string ⟨#[]⟩, .bool false, .int .i64 0, .int .i64 0, .slice none 0 0] 34)
  rw [e1] at Z
  have Z := Aside0.mk Z
  have BA := Aside0.mk (below_alloc (below_alloc (Below.refl w.heap.size w) (.cells #[.int .i64 0, .string nm, .string s, .slice A3 n3 c3, .slice A4 n4 c4, .int .i64 n5] 45)) (.cells #[.string ⟨#[]⟩, .bool false, .int .i64 0, .int .i64 0, .slice none 0 0] 34))
  have HB := Aside0.mk h.hB
  obtain ⟨gf, cf, A0, hcel, _, _⟩ := Cel.of h
  have HV := Aside0.mk hcel.hV
  have HXX := Aside0.mk (HX _ BA.out (Stk.below h BA.out))
  clear h e1 e2 HX hcel
  go_enter Tryd.func19, Tryd.ntmps19
  go_wp2_with (first | (go_at_call 18; refine (HXX.out).mono ?_; rintro e w5 hp; obtain ⟨v5, e5⟩ := hp.val; subst e5; have P5 := Aside0.mk hp; have Z5 := Aside0.mk (hp.1.1 _ _ _ (by decide) Z.out); have p0 : w5.cell? ⟨w.heap.size + 1, 0, none⟩ = some (.string ⟨#[]⟩) := (blk_cell Z5.out 0).trans rfl; have y0 : w5.frozen? ⟨w.heap.size + 1, 0, none⟩ = false := blk_frozen Z5.out 0; have p1 : w5.cell? ⟨w.heap.size + 1, 1, none⟩ = some (.bool false) := (blk_cell Z5.out 1).trans rfl; have y1 : w5.frozen? ⟨w.heap.size + 1, 1, none⟩ = false := blk_frozen Z5.out 1; have p2 : w5.cell? ⟨w.heap.size + 1, 2, none⟩ = some (.int .i64 0) := (blk_cell Z5.out 2).trans rfl; have y2 : w5.frozen? ⟨w.heap.size + 1, 2, none⟩ = false := blk_frozen Z5.out 2; have p3 : w5.cell? ⟨w.heap.size + 1, 3, none⟩ = some (.int .i64 0) := (blk_cell Z5.out 3).trans rfl; have y3 : w5.frozen? ⟨w.heap.size + 1, 3, none⟩ = false := blk_frozen Z5.out 3; have p4 : w5.cell? ⟨w.heap.size + 1, 4, none⟩ = some (.slice none 0 0) := (blk_cell Z5.out 4).trans rfl; have y4 : w5.frozen? ⟨w.heap.size + 1, 4, none⟩ = false := blk_frozen Z5.out 4; clear hp))
  refine bodyPost_ret (results_ct rfl _ _ (w.heap.size + 1) 34 bx.toArray (0, 0) _ rfl (fivv_at w5 (w.heap.size + 1) ⟨#[]⟩ false 0 0 none 0 0 Z5.out) Tryd.underlying34 rfl (by kernel_rfl)) rfl ?_
  exact ⟨_, rfl, PP.fivv P5.out (KX.of_below BA.out) (BA.out.mono HB.out) (Nat.le_succ _) (by have := E2.out; omega) HB.out Z5.out ⟨#[]⟩ false 0 0 none 0 0⟩
set_option maxHeartbeats 2000000 in
set_option maxRecDepth 100000 in
theorem dop1 (sb B : Nat) (fs : List Fm) (ok : Bool) (k : Int) (fnm : ByteArray) (xs : List S34) (args : List ByteArray) (nm s : ByteArray) (A3 : Option Addr) (n3 c3 : Nat) (A4 : Option Addr) (n4 c4 : Nat) (n5 : Int) (w : World) (h : Stk sb B (fs.map Fm.row) w)
    (HX : ∀ W, Below w.heap.size w W → Stk sb B (fs.map Fm.row) W → Calls Tryd.prog 13 #[.pointer (some ⟨sb, 0, none⟩), .string nm, .slice A3 n3 c3, .slice A4 n4 c4] W fun e w' => PP sb B fs ok k fnm xs args e W w') :
    Calls Tryd.prog 19 #[.pointer (some ⟨sb, 0, none⟩), .agg #[.int .i64 1, .string nm, .string s, .slice A3 n3 c3, .slice A4 n4 c4, .int .i64 n5]] w fun e w' => ∃ v, e = .returned (.tuple #[.agg bx.toArray, .int .i64 v]) ∧ PP sb B fs ok k fnm xs args (.returned (.int .i64 v)) w w' := by
  have hu34 := Tryd.underlying34
  have hu45 := Tryd.underlying45
  have hbx : bx = [.string ⟨#[]⟩, .bool false, .int .i64 0, .int .i64 0, .slice none 0 0] := rfl
  have e1 := sz1 w (.cells #[.int .i64 1, .string nm, .string s, .slice A3 n3 c3, .slice A4 n4 c4, .int .i64 n5] 45)
  have e2 := sz1 (w.alloc (.cells #[.int .i64 1, .string nm, .string s, .slice A3 n3 c3, .slice A4 n4 c4, .int .i64 n5] 45)) (.cells #[.string ⟨#[]⟩, .bool false, .int .i64 0, .int .i64 0, .slice none 0 0] 34)
  rw [e1] at e2
  have E2 := Aside0.mk e2
  have Z := blk_new (w.alloc (.cells #[.int .i64 1, .string nm, .string s, .slice A3 n3 c3, .slice A4 n4 c4, .int .i64 n5] 45)) (.cells #[.string ⟨#[]⟩, .bool false, .int .i64 0, .int .i64 0, .slice none 0 0] 34)
  rw [e1] at Z
  have Z := Aside0.mk Z
  have BA := Aside0.mk (below_alloc (below_alloc (Below.refl w.heap.size w) (.cells #[.int .i64 1, .string nm, .string s, .slice A3 n3 c3, .slice A4 n4 c4, .int .i64 n5] 45)) (.cells #[.string ⟨#[]⟩, .bool false, .int .i64 0, .int .i64 0, .slice none 0 0] 34))
  have HB := Aside0.mk h.hB
  obtain ⟨gf, cf, A0, hcel, _, _⟩ := Cel.of h
  have HV := Aside0.mk hcel.hV
  have HXX := Aside0.mk (HX _ BA.out (Stk.below h BA.out))
  clear h e1 e2 HX hcel
  go_enter Tryd.func19, Tryd.ntmps19
  go_wp2_with (first | (go_at_call 13; refine (HXX.out).mono ?_; rintro e w5 hp; obtain ⟨v5, e5⟩ := hp.val; subst e5; have P5 := Aside0.mk hp; have Z5 := Aside0.mk (hp.1.1 _ _ _ (by decide) Z.out); have p0 : w5.cell? ⟨w.heap.size + 1, 0, none⟩ = some (.string ⟨#[]⟩) := (blk_cell Z5.out 0).trans rfl; have y0 : w5.frozen? ⟨w.heap.size + 1, 0, none⟩ = false := blk_frozen Z5.out 0; have p1 : w5.cell? ⟨w.heap.size + 1, 1, none⟩ = some (.bool false) := (blk_cell Z5.out 1).trans rfl; have y1 : w5.frozen? ⟨w.heap.size + 1, 1, none⟩ = false := blk_frozen Z5.out 1; have p2 : w5.cell? ⟨w.heap.size + 1, 2, none⟩ = some (.int .i64 0) := (blk_cell Z5.out 2).trans rfl; have y2 : w5.frozen? ⟨w.heap.size + 1, 2, none⟩ = false := blk_frozen Z5.out 2; have p3 : w5.cell? ⟨w.heap.size + 1, 3, none⟩ = some (.int .i64 0) := (blk_cell Z5.out 3).trans rfl; have y3 : w5.frozen? ⟨w.heap.size + 1, 3, none⟩ = false := blk_frozen Z5.out 3; have p4 : w5.cell? ⟨w.heap.size + 1, 4, none⟩ = some (.slice none 0 0) := (blk_cell Z5.out 4).trans rfl; have y4 : w5.frozen? ⟨w.heap.size + 1, 4, none⟩ = false := blk_frozen Z5.out 4; clear hp))
  refine bodyPost_ret (results_ct rfl _ _ (w.heap.size + 1) 34 bx.toArray (0, 0) _ rfl (fivv_at w5 (w.heap.size + 1) ⟨#[]⟩ false 0 0 none 0 0 Z5.out) Tryd.underlying34 rfl (by kernel_rfl)) rfl ?_
  exact ⟨_, rfl, PP.fivv P5.out (KX.of_below BA.out) (BA.out.mono HB.out) (Nat.le_succ _) (by have := E2.out; omega) HB.out Z5.out ⟨#[]⟩ false 0 0 none 0 0⟩
set_option maxHeartbeats 2000000 in
set_option maxRecDepth 100000 in
theorem dop2 (sb B : Nat) (fs : List Fm) (ok : Bool) (k : Int) (fnm : ByteArray) (xs : List S34) (args : List ByteArray) (nm s : ByteArray) (A3 : Option Addr) (n3 c3 : Nat) (A4 : Option Addr) (n4 c4 : Nat) (n5 : Int) (w : World) (h : Stk sb B (fs.map Fm.row) w)
    (HX : ∀ W, Below w.heap.size w W → Stk sb B (fs.map Fm.row) W → Calls Tryd.prog 15 #[.pointer (some ⟨sb, 0, none⟩), .slice A3 n3 c3] W fun e w' => PP sb B fs ok k fnm xs args e W w') :
    Calls Tryd.prog 19 #[.pointer (some ⟨sb, 0, none⟩), .agg #[.int .i64 2, .string nm, .string s, .slice A3 n3 c3, .slice A4 n4 c4, .int .i64 n5]] w fun e w' => ∃ v, e = .returned (.tuple #[.agg bx.toArray, .int .i64 v]) ∧ PP sb B fs ok k fnm xs args (.returned (.int .i64 v)) w w' := by
  have hu34 := Tryd.underlying34
  have hu45 := Tryd.underlying45
  have hbx : bx = [.string ⟨#[]⟩, .bool false, .int .i64 0, .int .i64 0, .slice none 0 0] := rfl
  have e1 := sz1 w (.cells #[.int .i64 2, .string nm, .string s, .slice A3 n3 c3, .slice A4 n4 c4, .int .i64 n5] 45)
  have e2 := sz1 (w.alloc (.cells #[.int .i64 2, .string nm, .string s, .slice A3 n3 c3, .slice A4 n4 c4, .int .i64 n5] 45)) (.cells #[.string ⟨#[]⟩, .bool false, .int .i64 0, .int .i64 0, .slice none 0 0] 34)
  rw [e1] at e2
  have E2 := Aside0.mk e2
  have Z := blk_new (w.alloc (.cells #[.int .i64 2, .string nm, .string s, .slice A3 n3 c3, .slice A4 n4 c4, .int .i64 n5] 45)) (.cells #[.string ⟨#[]⟩, .bool false, .int .i64 0, .int .i64 0, .slice none 0 0] 34)
  rw [e1] at Z
  have Z := Aside0.mk Z
  have BA := Aside0.mk (below_alloc (below_alloc (Below.refl w.heap.size w) (.cells #[.int .i64 2, .string nm, .string s, .slice A3 n3 c3, .slice A4 n4 c4, .int .i64 n5] 45)) (.cells #[.string ⟨#[]⟩, .bool false, .int .i64 0, .int .i64 0, .slice none 0 0] 34))
  have HB := Aside0.mk h.hB
  obtain ⟨gf, cf, A0, hcel, _, _⟩ := Cel.of h
  have HV := Aside0.mk hcel.hV
  have HXX := Aside0.mk (HX _ BA.out (Stk.below h BA.out))
  clear h e1 e2 HX hcel
  go_enter Tryd.func19, Tryd.ntmps19
  go_wp2_with (first | (go_at_call 15; refine (HXX.out).mono ?_; rintro e w5 hp; obtain ⟨v5, e5⟩ := hp.val; subst e5; have P5 := Aside0.mk hp; have Z5 := Aside0.mk (hp.1.1 _ _ _ (by decide) Z.out); have p0 : w5.cell? ⟨w.heap.size + 1, 0, none⟩ = some (.string ⟨#[]⟩) := (blk_cell Z5.out 0).trans rfl; have y0 : w5.frozen? ⟨w.heap.size + 1, 0, none⟩ = false := blk_frozen Z5.out 0; have p1 : w5.cell? ⟨w.heap.size + 1, 1, none⟩ = some (.bool false) := (blk_cell Z5.out 1).trans rfl; have y1 : w5.frozen? ⟨w.heap.size + 1, 1, none⟩ = false := blk_frozen Z5.out 1; have p2 : w5.cell? ⟨w.heap.size + 1, 2, none⟩ = some (.int .i64 0) := (blk_cell Z5.out 2).trans rfl; have y2 : w5.frozen? ⟨w.heap.size + 1, 2, none⟩ = false := blk_frozen Z5.out 2; have p3 : w5.cell? ⟨w.heap.size + 1, 3, none⟩ = some (.int .i64 0) := (blk_cell Z5.out 3).trans rfl; have y3 : w5.frozen? ⟨w.heap.size + 1, 3, none⟩ = false := blk_frozen Z5.out 3; have p4 : w5.cell? ⟨w.heap.size + 1, 4, none⟩ = some (.slice none 0 0) := (blk_cell Z5.out 4).trans rfl; have y4 : w5.frozen? ⟨w.heap.size + 1, 4, none⟩ = false := blk_frozen Z5.out 4; clear hp))
  refine bodyPost_ret (results_ct rfl _ _ (w.heap.size + 1) 34 bx.toArray (0, 0) _ rfl (fivv_at w5 (w.heap.size + 1) ⟨#[]⟩ false 0 0 none 0 0 Z5.out) Tryd.underlying34 rfl (by kernel_rfl)) rfl ?_
  exact ⟨_, rfl, PP.fivv P5.out (KX.of_below BA.out) (BA.out.mono HB.out) (Nat.le_succ _) (by have := E2.out; omega) HB.out Z5.out ⟨#[]⟩ false 0 0 none 0 0⟩
end Go.Proofs.YtagadehcbpoihaaDoor.Raw5

namespace Go.Proofs.YtagadehcbpoihaaDoor.Raw5
open Go.RowKit Go.Proofs.YtagadehcbpoihaaDoorW.PrintWords Go.Proofs.YtagadehcbpoihaaDoorW.PrintLast Go.Proofs.YtagadehcbpoihaaDoorW.PrintMore Go.Proofs.YtagadehcbpoihaaDoorN Go.Proofs.YtagadehcbpoihaaDoor.Str Go.Proofs.YtagadehcbpoihaaDoor.Sane5 Go.Proofs.YtagadehcbpoihaaDoor.QSo
set_option linter.unusedVariables false
set_option linter.unusedSimpArgs false
/-- What is asked of a deed so that it can be walked. -/
structure DeedOk (d : S45) : Prop where
  text : ∃ k xs b, source_text.f k d.f2 = some (xs, b) ∧ (∀ x ∈ xs, LineOk x) ∧ xs.length ≤ 1000000
  good : ∃ k b, source_good.f k d.f3 = some b
  lines : d.f3.length ≤ 1000000 ∧ ∀ x ∈ d.f3, LineOk x
  args : slices_Clone_string_string.f d.f4 = some d.f4
theorem named_ok (s : ByteArray) : ∃ b, source_named.f s = some b := by
  unfold source_named.f
  split <;> exact ⟨_, rfl⟩
theorem do_order (d : S45) (hok : DeedOk d) (h0 : 0 ≤ d.f0) (h2 : d.f0 ≤ 2) : ∃ (ok : Bool) (k : Int) (nm : ByteArray) (xs : List S34) (args : List ByteArray), ((∀ x ∈ xs, LineOk x) ∧ xs.length ≤ 1000000) ∧ ∀ (sb B : Nat) (fs : List Fm) (hsz : fs.length ≤ 900) (W : World) (cells : List Value), k45.K W d cells → Stk sb B (fs.map Fm.row) W →
    Calls Tryd.prog 19 #[.pointer (some ⟨sb, 0, none⟩), .agg cells.toArray] W fun e w' => ∃ v, e = .returned (.tuple #[.agg bx.toArray, .int .i64 v]) ∧ PP sb B fs ok k nm xs args (.returned (.int .i64 v)) W w' := by
  obtain ⟨nb, hnb⟩ := named_ok d.f1
  obtain ⟨k1, xs, b, ht, hx, hxl⟩ := hok.text
  obtain ⟨k2, gb, hg⟩ := hok.good
  obtain ⟨d0, nm, s, l3, l4, d5⟩ := d
  have hc : d0 = 0 ∨ d0 = 1 ∨ d0 = 2 := by
    have h0 : 0 ≤ d0 := h0
    have h2 : d0 ≤ 2 := h2
    omega
  rcases hc with rfl | rfl | rfl
  · refine ⟨nb && b, 1, nm, xs, [], ⟨hx, hxl⟩, fun sb B fs hsz W cells hK hS => ?_⟩
    obtain ⟨A3, c3, A4, c4, rfl, l3h, g3, l4h, g4⟩ := k45_open hK
    exact dop0 sb B fs (nb && b) 1 nm xs [] nm s A3 l3.length c3 A4 l4.length c4 d5 W hS (fun W2 _ hS2 => file_any sb B fs hsz nm s k1 xs b nb ht hnb W2 hS2)
  · refine ⟨nb && gb, 2, nm, l3, l4, ⟨hok.lines.2, hok.lines.1⟩, fun sb B fs hsz W cells hK hS => ?_⟩
    obtain ⟨A3, c3, A4, c4, rfl, l3h, g3, l4h, g4⟩ := k45_open hK
    exact dop1 sb B fs (nb && gb) 2 nm l3 l4 nm s A3 l3.length c3 A4 l4.length c4 d5 W hS (fun W2 hb hS2 => macro_pp sb B fs hsz nm l3 l4 A3 c3 A4 c4 k2 gb nb hnb hg (fun _ => hok.lines.2) hok.args W2 hS2 (Kd.C_below g3 hb) l3h (Kd.C_below g4 hb) l4h)
  · refine ⟨gb, 3, ⟨#[]⟩, l3, [], ⟨hok.lines.2, hok.lines.1⟩, fun sb B fs hsz W cells hK hS => ?_⟩
    obtain ⟨A3, c3, A4, c4, rfl, l3h, g3, l4h, g4⟩ := k45_open hK
    exact dop2 sb B fs gb 3 ⟨#[]⟩ l3 [] nm s A3 l3.length c3 A4 l4.length c4 d5 W hS (fun W2 hb hS2 => wait_pp sb B fs hsz l3 A3 c3 k2 gb hg (fun _ => hok.lines.2) W2 hS2 (Kd.C_below g3 hb) l3h)
def mkL (t : ByteArray) : S34 := ⟨t, false, 0, 0, []⟩
/-- What is asked so that the law can be walked. -/
def OrderOk (text : ByteArray) (ds : List S45) (r : Bool) : Prop :=
  r = true ∧ (3000 < text.size ∨ ∃ k b, frisketlaw05_big.f k ds = some b ∧ (b = true ∨ ((∃ k xs tb kl L, source_text.f k text = some (xs, tb) ∧ frisketref05_Lines.f kl text = some L ∧ L.length ≤ 100000 ∧ (tb = true → xs = L.map mkL)) ∧ (∀ d ∈ ds, DeedOk d) ∧ ds.length ≤ 100000)))
/-- The file's frame, p lines taken. -/
def FF (A : Option Addr) (m c : Nat) (Aa : Option Addr) (na ca p : Nat) : Fm := ⟨1, nf, A, m, c, (p : Int), Aa, na, ca⟩
/-- The stack and what stays. -/
structure OSt (w w4 : World) (sb : Nat) (fs : List Fm) (w' : World) : Prop where
  st : Stk sb w.heap.size (fs.map Fm.row) w'
  kx : KX [56, 68] w4 w'
  hb : Below w.heap.size w w'
theorem OSt.below {w w4 w' w5 : World} {sb : Nat} {fs : List Fm} (h : OSt w w4 sb fs w') (hb : Below w'.heap.size w' w5) : OSt w w4 sb fs w5 :=
  ⟨Stk.below h.st hb, h.kx.trans (KX.of_below hb), h.hb.trans (hb.mono h.st.hB)⟩
theorem OSt.alloc {w w4 w' : World} {sb : Nat} {fs : List Fm} (h : OSt w w4 sb fs w') (o : Obj) : OSt w w4 sb fs (w'.alloc o) := h.below (below_alloc (Below.refl _ _) _)
theorem OSt.drew {w w4 w' : World} {sb : Nat} {fs : List Fm} (h : OSt w w4 sb fs w') : OSt w w4 sb fs w'.drew := h.below (below_drew1 (Below.refl _ _))
set_option maxHeartbeats 2000000 in
set_option maxRecDepth 100000 in
theorem depth_any (sb B : Nat) (fs : List Fm) (w : World) (h : Stk sb B (fs.map Fm.row) w) :
    Calls Tryd.prog 14 #[.pointer (some ⟨sb, 0, none⟩)] w fun e w' => e = .returned (.int .i64 (fs.length : Int)) ∧ w' = w := by
  obtain ⟨gf, cf, A, hcel, _, _⟩ := Cel.of h
  have HN := Aside0.mk (none_calls sb _ _ hcel.hV)
  have s5 : w.cell? ⟨sb, 0, none⟩ = some (.slice A fs.length cf) := (blk_cell hcel.hV 0).trans rfl
  clear hcel h
  go_enter Tryd.func14, Tryd.ntmps14
  go_wp2_with (first | (go_at_call 31; refine HN.out.mono ?_; rintro e w3 ⟨rfl, rfl⟩))
  refine bodyPost_ret (results_tmp rfl _ _ _) rfl ?_
  exact ⟨rfl, rfl⟩
theorem str_at {w : World} {base n c : Nat} {A : Option Addr} {L : List ByteArray} (h : Kd.R Kd.string 9 w base (fun _ => True) (.slice A n c) L) (p : Nat) (t : ByteArray) (hp : L[p]? = some t) : ∃ g, A = some ⟨g, 0, none⟩ ∧ w.cell? ⟨g, p, none⟩ = some (.string t) := by
  have hr := Kd.R_reads' h
  have hlt := (List.getElem?_eq_some_iff.1 hp).1
  obtain ⟨ad, hA, hc⟩ := hr.2.2.2.2 (by have := hr.1; omega)
  subst hA
  obtain ⟨g, rfl⟩ := Kd.R_head h
  obtain ⟨cl, hl, hK, hcell⟩ := hc p t hp
  refine ⟨g, rfl, ?_⟩
  obtain rfl : cl = [.string t] := hK
  have := hcell 0 _ rfl
  rw [add_at, Nat.zero_add] at this
  have e : p * Kd.string.sz + 0 = p := by show p * 1 + 0 = p; omega
  rw [e] at this
  exact this
/-- Next, of the file alone. -/
theorem next_file {w w4 w' : World} {sb : Nat} {A : Option Addr} {c : Nat} {Aa : Option Addr} {na ca p : Nat} {L : List ByteArray} (h : OSt w w4 sb [FF A L.length c Aa na ca p] w') (hR : Kd.R k34 34 w4 0 (fun _ => True) (.slice A L.length c) (L.map mkL)) (t : ByteArray) (hp : L[p]? = some t) (hL : L.length ≤ 100000) :
    Calls Tryd.prog 16 #[.pointer (some ⟨sb, 0, none⟩)] w' fun e w5 => (∃ Ab nb cb, e = .returned (.tuple #[.agg (ln5 t false 0 0 Ab nb cb).toArray, .int .i64 0])) ∧ OSt w w4 sb [FF A L.length c Aa na ca (p + 1)] w5 := by
  have hx : (L.map mkL)[p]? = some (mkL t) := by rw [List.getElem?_map, hp]; rfl
  have hl : (L.map mkL).length = L.length := List.length_map _
  have hR2 := R_KX hR h.kx (by rw [E34]; decide)
  have hR3 : Kd.R k34 34 w' 0 (fun _ => True) (.slice A (L.map mkL).length c) (L.map mkL) := by rw [hl]; exact hR2
  refine (next_pp sb w.heap.size [FF A L.length c Aa na ca p] (by simp) 0 p c 1 nf A Aa na ca (L.map mkL) (mkL t) (by rw [hl]; rfl) hx (by omega) ⟨Nat.zero_le _, fun b hb => by cases hb⟩ (fun a g ha hg => ?_) w' h.st hR3).mono ?_
  · have := (List.getElem?_eq_some_iff.1 hg).1
    simp at this
    omega
  · rintro e w5 ⟨⟨Ab, nb, cb, rfl, _⟩, hs, hk, hb⟩
    refine ⟨⟨Ab, nb, cb, rfl⟩, ⟨?_, h.kx.trans hk, h.hb.trans hb⟩⟩
    rw [hl] at hs
    exact hs
/-- Next, of the file with something on top that is not at its end. -/
theorem next_top {w w4 w' : World} {sb : Nat} {A : Option Addr} {m c : Nat} {Aa : Option Addr} {na ca p : Nat} {k : Int} {nm : ByteArray} {A2 : Option Addr} {c2 : Nat} {Ab2 : Option Addr} {nb2 cb2 a : Nat} {xs : List S34} (h : OSt w w4 sb [FF A m c Aa na ca p, ⟨k, nm, A2, xs.length, c2, (a : Int), Ab2, nb2, cb2⟩] w') (hR : Kd.R k34 34 w' 0 (fun _ => True) (.slice A2 xs.length c2) xs) (x : S34) (hx : xs[a]? = some x) (hok : ∀ x ∈ xs, LineOk x) (hxl : xs.length ≤ 1000000) :
    Calls Tryd.prog 16 #[.pointer (some ⟨sb, 0, none⟩)] w' fun e w5 => (∃ Ab nb cb, e = .returned (.tuple #[.agg (ln5 x.f0 x.f1 x.f2 x.f3 Ab nb cb).toArray, .int .i64 0])) ∧ OSt w w4 sb [FF A m c Aa na ca p, ⟨k, nm, A2, xs.length, c2, ((a + 1 : Nat) : Int), Ab2, nb2, cb2⟩] w5 ∧ Kd.R k34 34 w5 0 (fun _ => True) (.slice A2 xs.length c2) xs := by
  refine (next_pp sb w.heap.size [FF A m c Aa na ca p, ⟨k, nm, A2, xs.length, c2, (a : Int), Ab2, nb2, cb2⟩] (by simp) 1 a c2 k nm A2 Ab2 nb2 cb2 xs x rfl hx hxl (hok x (List.mem_of_getElem? hx)) (fun q g ha hg => ?_) w' h.st hR).mono ?_
  · have := (List.getElem?_eq_some_iff.1 hg).1
    simp at this
    omega
  · rintro e w5 ⟨⟨Ab, nb, cb, rfl, _⟩, hs, hk, hb⟩
    exact ⟨⟨Ab, nb, cb, rfl⟩, ⟨hs, h.kx.trans hk, h.hb.trans hb⟩, R_KX hR hk (by rw [E34]; decide)⟩
/-- Next, of the file with something on top that is at its end. -/
theorem next_over {w w4 w' : World} {sb : Nat} {A : Option Addr} {c : Nat} {Aa : Option Addr} {na ca p : Nat} {L : List ByteArray} {k : Int} {nm : ByteArray} {A2 : Option Addr} {m2 c2 : Nat} {Ab2 : Option Addr} {nb2 cb2 : Nat} (h : OSt w w4 sb [FF A L.length c Aa na ca p, ⟨k, nm, A2, m2, c2, (m2 : Int), Ab2, nb2, cb2⟩] w') (hR : Kd.R k34 34 w4 0 (fun _ => True) (.slice A L.length c) (L.map mkL)) (t : ByteArray) (hp : L[p]? = some t) (hL : L.length ≤ 100000) :
    Calls Tryd.prog 16 #[.pointer (some ⟨sb, 0, none⟩)] w' fun e w5 => (∃ Ab nb cb, e = .returned (.tuple #[.agg (ln5 t false 0 0 Ab nb cb).toArray, .int .i64 0])) ∧ OSt w w4 sb [FF A L.length c Aa na ca (p + 1)] w5 := by
  have hx : (L.map mkL)[p]? = some (mkL t) := by rw [List.getElem?_map, hp]; rfl
  have hl : (L.map mkL).length = L.length := List.length_map _
  have hR2 := R_KX hR h.kx (by rw [E34]; decide)
  have hR3 : Kd.R k34 34 w' 0 (fun _ => True) (.slice A (L.map mkL).length c) (L.map mkL) := by rw [hl]; exact hR2
  refine (next_pp sb w.heap.size [FF A L.length c Aa na ca p, ⟨k, nm, A2, m2, c2, (m2 : Int), Ab2, nb2, cb2⟩] (by simp) 0 p c 1 nf A Aa na ca (L.map mkL) (mkL t) (by rw [hl]; rfl) hx (by omega) ⟨Nat.zero_le _, fun b hb => by cases hb⟩ (fun a g ha hg => ?_) w' h.st hR3).mono ?_
  · have hlt := (List.getElem?_eq_some_iff.1 hg).1
    simp at hlt
    obtain rfl : a = 1 := by omega
    obtain rfl := Option.some.inj hg
    simp [Fm.over]
  · rintro e w5 ⟨⟨Ab, nb, cb, rfl, _⟩, hs, hk, hb⟩
    refine ⟨⟨Ab, nb, cb, rfl⟩, ⟨?_, h.kx.trans hk, h.hb.trans hb⟩⟩
    rw [hl] at hs
    exact hs
/-- Next, of the file at its end. -/
theorem next_end {w w4 w' : World} {sb : Nat} {A : Option Addr} {m c : Nat} {Aa : Option Addr} {na ca : Nat} (h : OSt w w4 sb [FF A m c Aa na ca m] w') :
    Calls Tryd.prog 16 #[.pointer (some ⟨sb, 0, none⟩)] w' fun e w5 => e = .returned (.tuple #[.agg (ln ⟨#[]⟩).toArray, .int .i64 3]) ∧ Below w.heap.size w w5 := by
  refine (next_none sb w.heap.size [FF A m c Aa na ca m] (by simp) (fun a g hg => ?_) w' h.st).mono ?_
  · have hlt := (List.getElem?_eq_some_iff.1 hg).1
    simp at hlt
    obtain rfl : a = 0 := by omega
    obtain rfl := Option.some.inj hg
    simp [Fm.over, FF]
  · rintro e w5 ⟨rfl, _, _, hb⟩
    exact ⟨rfl, h.hb.trans hb⟩
theorem tn_of_file (A : Option Addr) (m c : Nat) (Aa : Option Addr) (na ca p : Nat) : tn [FF A m c Aa na ca p] [FF A m c Aa na ca p].length = 1 := by
  show tn [FF A m c Aa na ca p] 1 = 1
  rw [tn, if_neg]
  simp [Fm.gone, FF]
/-- What a deed leaves. -/
theorem do_file {w w4 : World} {sb : Nat} {A : Option Addr} {m c : Nat} {Aa : Option Addr} {na ca p : Nat} (d : S45) (hok : DeedOk d) (h0 : 0 ≤ d.f0) (h2 : d.f0 ≤ 2) : ∃ ok : Bool, ∀ (W : World) (cells : List Value), k45.K W d cells → OSt w w4 sb [FF A m c Aa na ca p] W →
    Calls Tryd.prog 19 #[.pointer (some ⟨sb, 0, none⟩), .agg cells.toArray] W fun e w' => e = .returned (.tuple #[.agg bx.toArray, .int .i64 (if ok = true then 0 else 1)]) ∧
      if ok = true then ∃ (k : Int) (nm : ByteArray) (xs : List S34) (A2 : Option Addr) (c2 : Nat) (Ab2 : Option Addr) (nb2 cb2 : Nat), OSt w w4 sb [FF A m c Aa na ca p, ⟨k, nm, A2, xs.length, c2, ((0 : Nat) : Int), Ab2, nb2, cb2⟩] w' ∧ Kd.R k34 34 w' 0 (fun _ => True) (.slice A2 xs.length c2) xs ∧ (∀ x ∈ xs, LineOk x) ∧ xs.length ≤ 1000000 else OSt w w4 sb [FF A m c Aa na ca p] w' := by
  obtain ⟨ok, k, nm, xs, args, ⟨hx, hxl⟩, hW⟩ := do_order d hok h0 h2
  have ht : tn [FF A m c Aa na ca p] [FF A m c Aa na ca p].length = 1 := tn_of_file A m c Aa na ca p
  refine ⟨ok, fun W cells hK hS => (hW sb w.heap.size [FF A m c Aa na ca p] (by simp) W cells hK hS.st).mono ?_⟩
  rintro e w' ⟨v, rfl, ⟨⟨hk, hb⟩, hp⟩⟩
  have hk2 : KX [56, 68] W w' := hk.more (fun t ht => by simp at ht ⊢; exact Or.inl ht)
  rw [ht] at hp
  rcases hp with ⟨rfl, hv, hs⟩ | ⟨_, h50, _⟩ | ⟨rfl, _, hv, A2, c2, Ab2, nb2, cb2, hc2, hs, hR, _⟩
  · obtain rfl : v = 1 := by injection hv with hv; injection hv
    exact ⟨rfl, ⟨hs, hS.kx.trans hk2, hS.hb.trans hb⟩⟩
  · exact absurd h50 (by decide)
  · obtain rfl : v = 0 := by injection hv with hv; injection hv
    exact ⟨rfl, k, nm, xs, A2, c2, Ab2, nb2, cb2, ⟨hs, hS.kx.trans hk2, hS.hb.trans hb⟩, Kd.R_lower hR (Nat.zero_le _), hx, hxl⟩
end Go.Proofs.YtagadehcbpoihaaDoor.Raw5
