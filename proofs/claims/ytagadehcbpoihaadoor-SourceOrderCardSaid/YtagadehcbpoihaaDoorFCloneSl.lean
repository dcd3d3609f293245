/- slices.Clone of rows of five cells. -/
import Derived.Test.YtagadehcbpoihaaDoorFLinesSl
import Derived.Test.YtagadehcbpoihaaDoorWApart
import Derived.Lib.SliceRun
/- The fixed example of chapter 5: a text's lines as rows of five cells. -/
namespace Go.Proofs.YtagadehcbpoihaaDoor.Sane5
open Go.RowKit Go.Proofs.YtagadehcbpoihaaDoorW.PrintWords Go.Proofs.YtagadehcbpoihaaDoorW.PrintLast Go.Proofs.YtagadehcbpoihaaDoorW.PrintMore Go.Proofs.YtagadehcbpoihaaDoorN Go.Proofs.YtagadehcbpoihaaDoor.Str Go.Proofs.YtagadehcbpoihaaDoor.Lines5
set_option linter.unusedVariables false
set_option linter.unusedSimpArgs false
/-- A line of text: five cells. -/
def ln (x : ByteArray) : List Value := [.string x, .bool false, .int .i64 0, .int .i64 0, .slice none 0 0]
theorem rawM (n : Nat) (w : World) (base : Nat) (ok : Nat → Prop) (c : List Value) (h : c.length = n) (h1 : ∀ u ∈ c, u.oneCell' = true) : (Kd.raw n).M w base ok c c := ⟨rfl, h, h1⟩
theorem ln_one (x : ByteArray) : ∀ u ∈ ln x, u.oneCell' = true := by
  intro u hu
  simp only [ln, List.mem_cons, List.not_mem_nil, or_false] at hu
  rcases hu with rfl | rfl | rfl | rfl | rfl <;> rfl
theorem infoL : (Tryd.prog.info? 34).map (fun i => (i.zero, i.size, i.bytes)) = some (some (.agg #[.string ⟨#[]⟩, .bool false, .int .i64 0, .int .i64 0, .slice none 0 0]), 5, 64) := by kernel_rfl
theorem raw5 : 0 < (Kd.raw 5).sz := by decide
theorem p64 : 0 < 64 := by decide
end Go.Proofs.YtagadehcbpoihaaDoor.Sane5

namespace Go.Proofs.YtagadehcbpoihaaDoor.Sane5
open Go.RowKit Go.Proofs.YtagadehcbpoihaaDoorW.PrintWords Go.Proofs.YtagadehcbpoihaaDoorW.PrintLast Go.Proofs.YtagadehcbpoihaaDoorW.PrintMore Go.Proofs.YtagadehcbpoihaaDoorN Go.Proofs.YtagadehcbpoihaaDoor.Str
set_option linter.unusedVariables false
set_option linter.unusedSimpArgs false
theorem info65 : (Tryd.prog.info? 34).map (fun i => (i.zero, i.size, i.bytes)) = some (some (.agg #[.string ⟨#[]⟩, .bool false, .int .i64 0, .int .i64 0, .slice none 0 0]), 5, 64) := by kernel_rfl
theorem pb65 : 0 < 64 := by decide
theorem q65 : ∀ (w : World) (a : Option Addr) (n c n' c' : Nat), (binOp .eql 35 (.slice a n c) (.slice none n' c')).run Tryd.prog w = .ok (.bool a.isNone) w := fun w a n c n' c' => Lib.run_eql_slice_nil w _ _ a n c n' c' Tryd.underlying35
set_option maxHeartbeats 2000000 in
set_option maxRecDepth 100000 in
theorem clone65_nil (w : World) : Calls Tryd.prog 65 #[.slice none 0 0] w fun e w' => e = .returned (.slice none 0 0) ∧ w' = w := by
  have hq := q65
  go_enter Tryd.func65, Tryd.ntmps65
  go_wp2
  refine bodyPost_ret (results_tmp rfl _ _ _) rfl ?_
  exact ⟨rfl, rfl⟩
set_option maxHeartbeats 2000000 in
set_option maxRecDepth 100000 in
theorem clone65 (ad : Addr) (n c : Nat) (rows : List (List Value)) (w : World) (hr : (Kd.raw 5).C w (some ad) n rows) (hl : n ≤ 1000) :
    Calls Tryd.prog 65 #[.slice (some ad) n c] w fun e w' => ∃ v, e = .returned v ∧ (Kd.raw 5).R 34 w' w.heap.size (fun _ => True) v rows ∧ Below w.heap.size w w' := by
  have hq := q65
  have HR := Aside0.mk hr
  have HL := Aside0.mk hl
  clear hr hl
  go_enter Tryd.func65, Tryd.ntmps65
  go_wp2_with (first | ((with_reducible refine gate_dst (N := 5) rfl ?_); refine Kd.R_lit (Kd.raw 5) _ 34 ?hg (N := 5) ?hd (xs := ([] : List (List Value))) (inner := []) (ok := fun _ => True) (okp := fun _ => True) ?hr ?hp (fun _ hk => hk) trivial (Below.refl _ _) (Nat.le_refl _) (by simp) ?_; (case hd => rfl); (case hg => rfl); (case hr => first | (go_simp; done) | (go_simp; rfl)); (case hp => exact (Reps.none _ _)); intro v3 w3 ho3 hb3 hg3 hn3; have O3 := Aside0.mk ho3; have B3 := Aside0.mk hb3; clear ho3 hb3 hg3 hn3) | ((with_reducible refine gate_builtin (b := .append) (xs := #[.tmp 5, .tmp 6]) rfl ?_); at_builtin; refine Kd.R_append_rows (Kd.raw 5) (w0 := w) w.heap.size rfl (.tmp 5) (.tmp 6) 35 34 (.agg #[.string ⟨#[]⟩, .bool false, .int .i64 0, .int .i64 0, .slice none 0 0]) 64 rfl Tryd.underlying35 info65 rfl raw5 pb65 v3 [] rows _ _ _ (fun _ => True) (fun _ => False) rfl rfl ?aO ?aR (fun _ _ h => h) (fun _ h => h.elim) ?aF ?aB ?aS ?aL ?_; (case aR => exact Kd.C_below HR.out B3.out); (case aB => exact B3.out); (case aF => exact (fun _ _ => trivial)); (case aO => exact O3.out); (case aS => exact B3.out.size); (case aL => have := HL.out; simp only [List.length_nil]; omega); intro v5 w5 ho5 hb5 hg5 hat5; have O5 := Aside0.mk ho5; have B5 := Aside0.mk hb5; clear ho5 hb5 hg5 hat5))
  go_ret
  exact ⟨_, rfl, O5.out, B5.out⟩
theorem info51 : (Tryd.prog.info? 68).map (fun i => (i.zero, i.size, i.bytes)) = some (some (.agg #[.int .i64 0, .string ⟨#[]⟩, .slice none 0 0, .int .i64 0, .slice none 0 0]), 5, 80) := by kernel_rfl
theorem pb51 : 0 < 80 := by decide
theorem q51 : ∀ (w : World) (a : Option Addr) (n c n' c' : Nat), (binOp .eql 54 (.slice a n c) (.slice none n' c')).run Tryd.prog w = .ok (.bool a.isNone) w := fun w a n c n' c' => Lib.run_eql_slice_nil w _ _ a n c n' c' Tryd.underlying54
set_option maxHeartbeats 2000000 in
set_option maxRecDepth 100000 in
theorem clone51_nil (w : World) : Calls Tryd.prog 51 #[.slice none 0 0] w fun e w' => e = .returned (.slice none 0 0) ∧ w' = w := by
  have hq := q51
  go_enter Tryd.func51, Tryd.ntmps51
  go_wp2
  refine bodyPost_ret (results_tmp rfl _ _ _) rfl ?_
  exact ⟨rfl, rfl⟩
set_option maxHeartbeats 2000000 in
set_option maxRecDepth 100000 in
theorem clone51 (ad : Addr) (n c : Nat) (rows : List (List Value)) (w : World) (hr : (Kd.raw 5).C w (some ad) n rows) (hl : n ≤ 1000) :
    Calls Tryd.prog 51 #[.slice (some ad) n c] w fun e w' => ∃ v, e = .returned v ∧ (Kd.raw 5).R 68 w' w.heap.size (fun _ => True) v rows ∧ Below w.heap.size w w' := by
  have hq := q51
  have HR := Aside0.mk hr
  have HL := Aside0.mk hl
  clear hr hl
  go_enter Tryd.func51, Tryd.ntmps51
  go_wp2_with (first | ((with_reducible refine gate_dst (N := 5) rfl ?_); refine Kd.R_lit (Kd.raw 5) _ 68 ?hg (N := 5) ?hd (xs := ([] : List (List Value))) (inner := []) (ok := fun _ => True) (okp := fun _ => True) ?hr ?hp (fun _ hk => hk) trivial (Below.refl _ _) (Nat.le_refl _) (by simp) ?_; (case hd => rfl); (case hg => rfl); (case hr => first | (go_simp; done) | (go_simp; rfl)); (case hp => exact (Reps.none _ _)); intro v3 w3 ho3 hb3 hg3 hn3; have O3 := Aside0.mk ho3; have B3 := Aside0.mk hb3; clear ho3 hb3 hg3 hn3) | ((with_reducible refine gate_builtin (b := .append) (xs := #[.tmp 5, .tmp 6]) rfl ?_); at_builtin; refine Kd.R_append_rows (Kd.raw 5) (w0 := w) w.heap.size rfl (.tmp 5) (.tmp 6) 54 68 (.agg #[.int .i64 0, .string ⟨#[]⟩, .slice none 0 0, .int .i64 0, .slice none 0 0]) 80 rfl Tryd.underlying54 info51 rfl raw5 pb51 v3 [] rows _ _ _ (fun _ => True) (fun _ => False) rfl rfl ?aO ?aR (fun _ _ h => h) (fun _ h => h.elim) ?aF ?aB ?aS ?aL ?_; (case aR => exact Kd.C_below HR.out B3.out); (case aB => exact B3.out); (case aF => exact (fun _ _ => trivial)); (case aO => exact O3.out); (case aS => exact B3.out.size); (case aL => have := HL.out; simp only [List.length_nil]; omega); intro v5 w5 ho5 hb5 hg5 hat5; have O5 := Aside0.mk ho5; have B5 := Aside0.mk hb5; clear ho5 hb5 hg5 hat5))
  go_ret
  exact ⟨_, rfl, O5.out, B5.out⟩
theorem q66 : ∀ (w : World) (a : Option Addr) (n c n' c' : Nat), (binOp .eql 32 (.slice a n c) (.slice none n' c')).run Tryd.prog w = .ok (.bool a.isNone) w := fun w a n c n' c' => Lib.run_eql_slice_nil w _ _ a n c n' c' Tryd.underlying32
set_option maxHeartbeats 2000000 in
set_option maxRecDepth 100000 in
theorem clone66_nil (w : World) : Calls Tryd.prog 66 #[.slice none 0 0] w fun e w' => e = .returned (.slice none 0 0) ∧ w' = w := by
  have hq := q66
  go_enter Tryd.func66, Tryd.ntmps66
  go_wp2
  refine bodyPost_ret (results_tmp rfl _ _ _) rfl ?_
  exact ⟨rfl, rfl⟩
theorem q36 : ∀ (w : World) (a : Option Addr) (n c n' c' : Nat), (binOp .eql 23 (.slice a n c) (.slice none n' c')).run Tryd.prog w = .ok (.bool a.isNone) w := fun w a n c n' c' => Lib.run_eql_slice_nil w _ _ a n c n' c' Tryd.underlying23
set_option maxHeartbeats 2000000 in
set_option maxRecDepth 100000 in
theorem clone36_nil (w : World) : Calls Tryd.prog 36 #[.slice none 0 0] w fun e w' => e = .returned (.slice none 0 0) ∧ w' = w := by
  have hq := q36
  go_enter Tryd.func36, Tryd.ntmps36
  go_wp2
  refine bodyPost_ret (results_tmp rfl _ _ _) rfl ?_
  exact ⟨rfl, rfl⟩
end Go.Proofs.YtagadehcbpoihaaDoor.Sane5
