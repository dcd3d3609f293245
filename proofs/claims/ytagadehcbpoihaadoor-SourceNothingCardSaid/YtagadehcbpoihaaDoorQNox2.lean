/- A stack that is nil, or was not made, does nothing: the law's walk, in the print's form. -/
import Derived.Test.YtagadehcbpoihaaDoorFSl
import Derived.Test.YtagadehcbpoihaaDoorQSlx1
import Derived.Test.YtagadehcbpoihaaDoorFNextNSl
import Derived.Deep.RegionLaw
import Derived.Test.YtagadehcbpoihaaDoorQNox1
import Derived.StillTail
import Derived.StillTailTactics
/- A stack that is nil, or was not made, does nothing: the law's walk. -/
/- The same line: no line. -/
/- A deed, of a stack that is nil or was not made. -/
/- A stack that is nil, or was not made: File, Instead, Next, Peek; a deed; the same line. -/
/- A stack that is nil, or was not made: none. -/
namespace Go.Proofs.YtagadehcbpoihaaDoor.Nil5
open Go.RowKit Go.Proofs.YtagadehcbpoihaaDoorW.PrintWords Go.Proofs.YtagadehcbpoihaaDoorW.PrintLast Go.Proofs.YtagadehcbpoihaaDoorW.PrintMore Go.Proofs.YtagadehcbpoihaaDoorN
set_option linter.unusedVariables false
set_option linter.unusedSimpArgs false
/-- No stack: nil, or one that was not made. -/
def NoStk (p : Value) (w : World) : Prop := p = .pointer none ∨ ∃ sb, p = .pointer (some ⟨sb, 0, none⟩) ∧ w.heap[sb]? = some (.cells #[.slice none 0 0, .bool false] 56 (0, 0))
theorem NoStk.below {p : Value} {w w1 : World} (h : NoStk p w) (hb : Below w.heap.size w w1) : NoStk p w1 := by
  rcases h with h | ⟨sb, h1, h2⟩
  · exact .inl h
  · exact .inr ⟨sb, h1, blk_below h2 hb⟩
set_option maxHeartbeats 2000000 in
set_option maxRecDepth 100000 in
theorem none_yes (p : Value) (w : World) (h : NoStk p w) : Calls Tryd.prog 31 #[p] w fun e w' => e = .returned (.bool true) ∧ w' = w := by
  rcases h with rfl | ⟨sb, rfl, h⟩
  · go_enter Tryd.func31, Tryd.ntmps31
    go_wp2
    refine bodyPost_ret (results_tmp rfl _ _ _) rfl ?_
    exact ⟨rfl, rfl⟩
  · have h1 : w.cell? ⟨sb, 1, none⟩ = some (.bool false) := (blk_cell h 1).trans rfl
    clear h
    go_enter Tryd.func31, Tryd.ntmps31
    go_wp2
    refine bodyPost_ret (results_tmp rfl _ _ _) rfl ?_
    exact ⟨rfl, rfl⟩
set_option maxHeartbeats 2000000 in
set_option maxRecDepth 100000 in
theorem macro_no (p : Value) (s : ByteArray) (l a : Value) (w : World) (h : NoStk p w) : Calls Tryd.prog 13 #[p, .string s, l, a] w fun e w' => e = .returned (.int .i64 1) ∧ w' = w := by
  have HN := Aside0.mk (none_yes p w h)
  clear h
  go_enter Tryd.func13, Tryd.ntmps13
  go_wp2_with (first | (go_at_call 31; refine (HN.out).mono ?_; rintro e w2 ⟨rfl, rfl⟩))
  refine bodyPost_ret (results_tmp rfl _ _ _) rfl ?_
  exact ⟨rfl, rfl⟩
set_option maxHeartbeats 2000000 in
set_option maxRecDepth 100000 in
theorem wait_no (p : Value) (l : Value) (w : World) (h : NoStk p w) : Calls Tryd.prog 15 #[p, l] w fun e w' => e = .returned (.int .i64 1) ∧ w' = w := by
  have HN := Aside0.mk (none_yes p w h)
  clear h
  go_enter Tryd.func15, Tryd.ntmps15
  go_wp2_with (first | (go_at_call 31; refine (HN.out).mono ?_; rintro e w2 ⟨rfl, rfl⟩))
  refine bodyPost_ret (results_tmp rfl _ _ _) rfl ?_
  exact ⟨rfl, rfl⟩
set_option maxHeartbeats 2000000 in
set_option maxRecDepth 100000 in
theorem return_no (p : Value) (b : Bool) (w : World) (h : NoStk p w) : Calls Tryd.prog 40 #[p, .bool b] w fun e w' => e = .returned (.int .i64 1) ∧ w' = w := by
  have HN := Aside0.mk (none_yes p w h)
  clear h
  go_enter Tryd.func40, Tryd.ntmps40
  go_wp2_with (first | (go_at_call 31; refine (HN.out).mono ?_; rintro e w2 ⟨rfl, rfl⟩))
  refine bodyPost_ret (results_tmp rfl _ _ _) rfl ?_
  exact ⟨rfl, rfl⟩
set_option maxHeartbeats 2000000 in
set_option maxRecDepth 100000 in
theorem shift_no (p : Value) (n : Int) (w : World) (h : NoStk p w) : Calls Tryd.prog 42 #[p, .int .i64 n] w fun e w' => e = .returned (.int .i64 1) ∧ w' = w := by
  have HN := Aside0.mk (none_yes p w h)
  clear h
  go_enter Tryd.func42, Tryd.ntmps42
  go_wp2_with (first | (go_at_call 31; refine (HN.out).mono ?_; rintro e w2 ⟨rfl, rfl⟩))
  refine bodyPost_ret (results_tmp rfl _ _ _) rfl ?_
  exact ⟨rfl, rfl⟩
set_option maxHeartbeats 2000000 in
set_option maxRecDepth 100000 in
theorem depth_no (p : Value) (w : World) (h : NoStk p w) : Calls Tryd.prog 14 #[p] w fun e w' => e = .returned (.int .i64 0) ∧ w' = w := by
  have HN := Aside0.mk (none_yes p w h)
  clear h
  go_enter Tryd.func14, Tryd.ntmps14
  go_wp2_with (first | (go_at_call 31; refine (HN.out).mono ?_; rintro e w2 ⟨rfl, rfl⟩))
  refine bodyPost_ret (results_tmp rfl _ _ _) rfl ?_
  exact ⟨rfl, rfl⟩
set_option maxHeartbeats 2000000 in
set_option maxRecDepth 100000 in
theorem copy_no (p : Value) (w : World) (h : NoStk p w) : Calls Tryd.prog 22 #[p] w fun e w' => e = .returned (.pointer none) ∧ w' = w := by
  have HN := Aside0.mk (none_yes p w h)
  clear h
  go_enter Tryd.func22, Tryd.ntmps22
  go_wp2_with (first | (go_at_call 31; refine (HN.out).mono ?_; rintro e w2 ⟨rfl, rfl⟩))
  refine bodyPost_ret (results_tmp rfl _ _ _) rfl ?_
  exact ⟨rfl, rfl⟩
set_option maxHeartbeats 2000000 in
set_option maxRecDepth 100000 in
theorem top_no (p : Value) (k : Int) (w : World) (h : NoStk p w) : Calls Tryd.prog 59 #[p, .int .i64 k] w fun e w' => e = .returned (.int .i64 (-1)) ∧ Below w.heap.size w w' := by
  have HN := Aside0.mk (fun W h => none_yes p W h)
  have H := Aside0.mk h
  clear h
  go_enter Tryd.func59, Tryd.ntmps59
  go_wp2_with (first | (go_at_call 31; refine (HN.out _ ((H.out.below (below_alloc (Below.refl _ _) _)).below (below_alloc (Below.refl _ _) _))).mono ?_; rintro e w2 ⟨rfl, rfl⟩))
  have e1 : (w.alloc (.cells #[.int .i64 k] 3)).heap.size = w.heap.size + 1 := by show (w.heap.push _).size = _; rw [Array.size_push]
  have d := blk_cell (blk_new (w.alloc (.cells #[.int .i64 k] 3)) (.cells #[.int .i64 (-1)] 3)) 0
  rw [e1] at d
  have d2 : ((w.alloc (.cells #[.int .i64 k] 3)).alloc (.cells #[.int .i64 (-1)] 3)).cell? ⟨w.heap.size + 1, 0, none⟩ = some (.int .i64 (-1)) := d
  simp [bodyPost, results, Tryd.results59, go_sem, d2]
  exact below_alloc (below_alloc (Below.refl _ _) _) _
set_option maxHeartbeats 2000000 in
set_option maxRecDepth 100000 in
theorem line_no (p : Value) (w : World) (h : NoStk p w) : Calls Tryd.prog 26 #[p] w fun e w' => e = .returned (.int .i64 0) ∧ Below w.heap.size w w' := by
  have HN := Aside0.mk (top_no p 1 w h)
  clear h
  go_enter Tryd.func26, Tryd.ntmps26
  go_wp2_with (first | (go_at_call 59; refine (HN.out).mono ?_; rintro e w2 ⟨rfl, hb⟩; have HB := Aside0.mk hb; clear hb))
  refine bodyPost_ret (results_tmp rfl _ _ _) rfl ?_
  exact ⟨rfl, HB.out⟩
set_option maxHeartbeats 2000000 in
set_option maxRecDepth 100000 in
theorem name_no (p : Value) (w : World) (h : NoStk p w) : Calls Tryd.prog 27 #[p] w fun e w' => e = .returned (.string ⟨#[]⟩) ∧ Below w.heap.size w w' := by
  have HN := Aside0.mk (top_no p 0 w h)
  clear h
  go_enter Tryd.func27, Tryd.ntmps27
  go_wp2_with (first | (go_at_call 59; refine (HN.out).mono ?_; rintro e w2 ⟨rfl, hb⟩; have HB := Aside0.mk hb; clear hb))
  refine bodyPost_ret (results_tmp rfl _ _ _) rfl ?_
  exact ⟨rfl, HB.out⟩
set_option maxHeartbeats 2000000 in
set_option maxRecDepth 100000 in
theorem args_no (p : Value) (w : World) (h : NoStk p w) : Calls Tryd.prog 28 #[p] w fun e w' => e = .returned (.slice none 0 0) ∧ Below w.heap.size w w' := by
  have HN := Aside0.mk (top_no p 2 w h)
  clear h
  go_enter Tryd.func28, Tryd.ntmps28
  go_wp2_with (first | (go_at_call 59; refine (HN.out).mono ?_; rintro e w2 ⟨rfl, hb⟩; have HB := Aside0.mk hb; clear hb))
  refine bodyPost_ret (results_tmp rfl _ _ _) rfl ?_
  exact ⟨rfl, HB.out⟩
end Go.Proofs.YtagadehcbpoihaaDoor.Nil5

namespace Go.Proofs.YtagadehcbpoihaaDoor.Nil5
open Go.RowKit Go.Proofs.YtagadehcbpoihaaDoorW.PrintWords Go.Proofs.YtagadehcbpoihaaDoorW.PrintLast Go.Proofs.YtagadehcbpoihaaDoorW.PrintMore Go.Proofs.YtagadehcbpoihaaDoorN Go.Proofs.YtagadehcbpoihaaDoor.Sane5
set_option linter.unusedVariables false
set_option linter.unusedSimpArgs false
def eZ : ByteArray := ⟨#[]⟩
def bx : List Value := [.string ⟨#[]⟩, .bool false, .int .i64 0, .int .i64 0, .slice none 0 0]
theorem results_ci {fn : Func} {p p' : Tmp} (h : fn.results = #[.cell p 34, .cell p' 30]) (tmps : Array Value) (w : World) (g g' : Nat) (v0 v1 v2 v3 v4 : Value) (n : Int)
    (hp : tmps.getD p undef = .pointer (some ⟨g, 0, none⟩)) (hg : w.heap[g]? = some (.cells #[v0, v1, v2, v3, v4] 34 (0, 0)))
    (hp' : tmps.getD p' undef = .pointer (some ⟨g', 0, none⟩)) (hg' : w.heap[g']? = some (.cells #[.int .i64 n] 30 (0, 0))) :
    (results fn tmps).run Tryd.prog w = .ok (.tuple #[.agg #[v0, v1, v2, v3, v4], .int .i64 n]) w := by
  have h1 : tmps[p]?.getD undef = .pointer (some ⟨g, 0, none⟩) := by simpa using hp
  have h2 : tmps[p']?.getD undef = .pointer (some ⟨g', 0, none⟩) := by simpa using hp'
  have h3 : w.cell? ⟨g', 0, none⟩ = some (.int .i64 n) := (blk_cell hg' 0).trans rfl
  have c0 : w.cell? ⟨g, 0, none⟩ = some v0 := (blk_cell hg 0).trans rfl
  have c1 : w.cell? ⟨g, 1, none⟩ = some v1 := (blk_cell hg 1).trans rfl
  have c2 : w.cell? ⟨g, 2, none⟩ = some v2 := (blk_cell hg 2).trans rfl
  have c3 : w.cell? ⟨g, 3, none⟩ = some v3 := (blk_cell hg 3).trans rfl
  have c4 : w.cell? ⟨g, 4, none⟩ = some v4 := (blk_cell hg 4).trans rfl
  have h4 := Tryd.underlying30
  have h5 := Tryd.underlying34
  simp [results, h, h1, h2, asAddr, go_sem, h3, h4, h5, c0, c1, c2, c3, c4]
/-- text answers. -/
def TextOk (s : ByteArray) : Prop := ∃ k r1 r2, QSl.source_text.f k s = some (r1, r2)
set_option maxHeartbeats 2000000 in
set_option maxRecDepth 100000 in
theorem file_no (p : Value) (nm s : ByteArray) (ht : TextOk s) (w : World) (h : NoStk p w) : Calls Tryd.prog 18 #[p, .string nm, .string s] w fun e w' => e = .returned (.int .i64 1) ∧ Below w.heap.size w w' := by
  obtain ⟨k, r1, r2, hf⟩ := ht
  have HT := Aside0.mk (QSl.source_text.calls k s r1 r2 w hf)
  have HN := Aside0.mk (fun W h => none_yes p W h)
  have H := Aside0.mk h
  clear h hf
  go_enter Tryd.func18, Tryd.ntmps18
  go_wp2_with (first | (go_at_call 38; refine (HT.out).mono ?_; rintro e w2 ⟨v2, rfl, hr2, hb2⟩; have B2 := Aside0.mk hb2; have H2 := Aside0.mk (H.out.below hb2); clear hr2 hb2) | (go_at_call 31; refine (HN.out _ H2.out).mono ?_; rintro e w3 ⟨rfl, rfl⟩))
  refine bodyPost_ret (results_tmp rfl _ _ _) rfl ?_
  exact ⟨rfl, B2.out⟩
set_option maxHeartbeats 2000000 in
set_option maxRecDepth 100000 in
theorem instead_no (p : Value) (nm s : ByteArray) (ht : TextOk s) (w : World) (h : NoStk p w) : Calls Tryd.prog 41 #[p, .string nm, .string s] w fun e w' => e = .returned (.int .i64 1) ∧ Below w.heap.size w w' := by
  obtain ⟨k, r1, r2, hf⟩ := ht
  have HT := Aside0.mk (QSl.source_text.calls k s r1 r2 w hf)
  have HN := Aside0.mk (fun W h => none_yes p W h)
  have H := Aside0.mk h
  clear h hf
  go_enter Tryd.func41, Tryd.ntmps41
  go_wp2_with (first | (go_at_call 38; refine (HT.out).mono ?_; rintro e w2 ⟨v2, rfl, hr2, hb2⟩; have B2 := Aside0.mk hb2; have H2 := Aside0.mk (H.out.below hb2); clear hr2 hb2) | (go_at_call 31; refine (HN.out _ H2.out).mono ?_; rintro e w3 ⟨rfl, rfl⟩))
  refine bodyPost_ret (results_tmp rfl _ _ _) rfl ?_
  exact ⟨rfl, B2.out⟩
set_option maxHeartbeats 2000000 in
set_option maxRecDepth 100000 in
theorem next_no (p : Value) (w : World) (h : NoStk p w) : Calls Tryd.prog 16 #[p] w fun e w' => e = .returned (.tuple #[.agg bx.toArray, .int .i64 1]) ∧ Below w.heap.size w w' := by
  have HN := Aside0.mk (fun W h => none_yes p W h)
  have H := Aside0.mk (h.below (below_alloc (Below.refl w.heap.size w) (.cells #[.string ⟨#[]⟩, .bool false, .int .i64 0, .int .i64 0, .slice none 0 0] 34)))
  have hu34 := Tryd.underlying34
  clear h
  go_enter Tryd.func16, Tryd.ntmps16
  go_wp2_with (first | (go_at_call 31; refine (HN.out _ H.out).mono ?_; rintro e w3 ⟨rfl, rfl⟩))
  have Z := Aside0.mk (blk_new w (.cells #[.string ⟨#[]⟩, .bool false, .int .i64 0, .int .i64 0, .slice none 0 0] 34))
  have BA := Aside0.mk (below_alloc (Below.refl w.heap.size w) (.cells #[.string ⟨#[]⟩, .bool false, .int .i64 0, .int .i64 0, .slice none 0 0] 34))
  obtain ⟨W, hW⟩ : ∃ W, w.alloc (.cells #[.string ⟨#[]⟩, .bool false, .int .i64 0, .int .i64 0, .slice none 0 0] 34) = W := ⟨_, rfl⟩
  rw [hW] at Z BA ⊢
  clear hW
  refine bodyPost_ret (results_ct rfl _ _ w.heap.size 34 bx.toArray (0, 0) _ rfl Z.out Tryd.underlying34 rfl (by kernel_rfl)) rfl ?_
  exact ⟨rfl, BA.out⟩
set_option maxHeartbeats 2000000 in
set_option maxRecDepth 100000 in
theorem peek_no (p : Value) (w : World) (h : NoStk p w) : Calls Tryd.prog 39 #[p] w fun e w' => e = .returned (.tuple #[.agg bx.toArray, .int .i64 1]) ∧ Below w.heap.size w w' := by
  have HN := Aside0.mk (fun W h => none_yes p W h)
  have H := Aside0.mk ((h.below (below_alloc (Below.refl w.heap.size w) (.cells #[.string ⟨#[]⟩, .bool false, .int .i64 0, .int .i64 0, .slice none 0 0] 34))).below (below_alloc (Below.refl _ (w.alloc (.cells #[.string ⟨#[]⟩, .bool false, .int .i64 0, .int .i64 0, .slice none 0 0] 34))) (.cells #[.int .i64 0] 30)))
  have hu34 := Tryd.underlying34
  clear h
  go_enter Tryd.func39, Tryd.ntmps39
  go_wp2_with (first | (go_at_call 31; refine (HN.out _ H.out).mono ?_; rintro e w3 ⟨rfl, rfl⟩))
  have e1 : (w.alloc (.cells #[.string ⟨#[]⟩, .bool false, .int .i64 0, .int .i64 0, .slice none 0 0] 34)).heap.size = w.heap.size + 1 := by show (w.heap.push _).size = _; rw [Array.size_push]
  have Z := Aside0.mk (blk_alloc (blk_new w (.cells #[.string ⟨#[]⟩, .bool false, .int .i64 0, .int .i64 0, .slice none 0 0] 34)) (.cells #[.int .i64 1] 30))
  have Z2 := blk_new (w.alloc (.cells #[.string ⟨#[]⟩, .bool false, .int .i64 0, .int .i64 0, .slice none 0 0] 34)) (.cells #[.int .i64 1] 30)
  rw [e1] at Z2
  have Z2 := Aside0.mk Z2
  have BA := Aside0.mk (below_alloc (below_alloc (Below.refl w.heap.size w) (.cells #[.string ⟨#[]⟩, .bool false, .int .i64 0, .int .i64 0, .slice none 0 0] 34)) (.cells #[.int .i64 1] 30))
  obtain ⟨W, hW⟩ : ∃ W, (w.alloc (.cells #[.string ⟨#[]⟩, .bool false, .int .i64 0, .int .i64 0, .slice none 0 0] 34)).alloc (.cells #[.int .i64 1] 30) = W := ⟨_, rfl⟩
  rw [hW] at Z Z2 BA ⊢
  clear hW
  refine bodyPost_ret (results_ci rfl _ _ w.heap.size (w.heap.size + 1) _ _ _ _ _ 1 rfl Z.out rfl Z2.out) rfl ?_
  exact ⟨rfl, BA.out⟩
end Go.Proofs.YtagadehcbpoihaaDoor.Nil5

namespace Go.Proofs.YtagadehcbpoihaaDoor.Nil5
open Go.RowKit Go.Proofs.YtagadehcbpoihaaDoorW.PrintWords Go.Proofs.YtagadehcbpoihaaDoorW.PrintLast Go.Proofs.YtagadehcbpoihaaDoorW.PrintMore Go.Proofs.YtagadehcbpoihaaDoorN Go.Proofs.YtagadehcbpoihaaDoor.Sane5
set_option linter.unusedVariables false
set_option linter.unusedSimpArgs false
theorem same_below {P : Program} {f : FuncId} {args : Array Value} {w : World} {v : Value} (h : Calls P f args w fun e w' => e = .returned v ∧ w' = w) : Calls P f args w fun e w' => e = .returned v ∧ Below w.heap.size w w' :=
  h.mono (fun e w' h => ⟨h.1, h.2 ▸ Below.refl _ _⟩)
set_option maxHeartbeats 2000000 in
set_option maxRecDepth 100000 in
theorem do0 (p : Value) (nm s : ByteArray) (A3 : Option Addr) (n3 c3 : Nat) (A4 : Option Addr) (n4 c4 : Nat) (n5 : Int) (ht : TextOk s) (w : World) (h : NoStk p w) : Calls Tryd.prog 19 #[p, .agg #[.int .i64 0, .string nm, .string s, .slice A3 n3 c3, .slice A4 n4 c4, .int .i64 n5]] w fun e w' => e = .returned (.tuple #[.agg bx.toArray, .int .i64 1]) ∧ Below w.heap.size w w' := by
  have hu34 := Tryd.underlying34
  have hu45 := Tryd.underlying45
  have hbx : bx = [.string ⟨#[]⟩, .bool false, .int .i64 0, .int .i64 0, .slice none 0 0] := rfl
  have HX := Aside0.mk (fun W (hW : NoStk p W) => file_no p nm s ht W hW)
  have e1 : (w.alloc (.cells #[.int .i64 0, .string nm, .string s, .slice A3 n3 c3, .slice A4 n4 c4, .int .i64 n5] 45)).heap.size = w.heap.size + 1 := by show (w.heap.push _).size = _; rw [Array.size_push]
  have Z := blk_new (w.alloc (.cells #[.int .i64 0, .string nm, .string s, .slice A3 n3 c3, .slice A4 n4 c4, .int .i64 n5] 45)) (.cells #[.string ⟨#[]⟩, .bool false, .int .i64 0, .int .i64 0, .slice none 0 0] 34)
  have Zd := Aside0.mk (blk_alloc (blk_new w (.cells #[.int .i64 0, .string nm, .string s, .slice A3 n3 c3, .slice A4 n4 c4, .int .i64 n5] 45)) (.cells #[.string ⟨#[]⟩, .bool false, .int .i64 0, .int .i64 0, .slice none 0 0] 34))
  rw [e1] at Z
  have Z := Aside0.mk Z
  have BA := Aside0.mk (below_alloc (below_alloc (Below.refl w.heap.size w) (.cells #[.int .i64 0, .string nm, .string s, .slice A3 n3 c3, .slice A4 n4 c4, .int .i64 n5] 45)) (.cells #[.string ⟨#[]⟩, .bool false, .int .i64 0, .int .i64 0, .slice none 0 0] 34))
  have H := Aside0.mk ((h.below (below_alloc (Below.refl w.heap.size w) (.cells #[.int .i64 0, .string nm, .string s, .slice A3 n3 c3, .slice A4 n4 c4, .int .i64 n5] 45))).below (below_alloc (Below.refl _ (w.alloc (.cells #[.int .i64 0, .string nm, .string s, .slice A3 n3 c3, .slice A4 n4 c4, .int .i64 n5] 45))) (.cells #[.string ⟨#[]⟩, .bool false, .int .i64 0, .int .i64 0, .slice none 0 0] 34)))
  clear h ht e1
  go_enter Tryd.func19, Tryd.ntmps19
  go_wp2_with (first | (go_at_call 18; refine (HX.out _ H.out).mono ?_; rintro e w5 ⟨rfl, hb5⟩; have Z5 := Aside0.mk (blk_below Z.out hb5); have B5 := Aside0.mk (BA.out.trans (hb5.mono BA.out.size)); have p0 : w5.cell? ⟨w.heap.size + 1, 0, none⟩ = some (.string ⟨#[]⟩) := (blk_cell Z5.out 0).trans rfl; have y0 : w5.frozen? ⟨w.heap.size + 1, 0, none⟩ = false := blk_frozen Z5.out 0; have p1 : w5.cell? ⟨w.heap.size + 1, 1, none⟩ = some (.bool false) := (blk_cell Z5.out 1).trans rfl; have y1 : w5.frozen? ⟨w.heap.size + 1, 1, none⟩ = false := blk_frozen Z5.out 1; have p2 : w5.cell? ⟨w.heap.size + 1, 2, none⟩ = some (.int .i64 0) := (blk_cell Z5.out 2).trans rfl; have y2 : w5.frozen? ⟨w.heap.size + 1, 2, none⟩ = false := blk_frozen Z5.out 2; have p3 : w5.cell? ⟨w.heap.size + 1, 3, none⟩ = some (.int .i64 0) := (blk_cell Z5.out 3).trans rfl; have y3 : w5.frozen? ⟨w.heap.size + 1, 3, none⟩ = false := blk_frozen Z5.out 3; have p4 : w5.cell? ⟨w.heap.size + 1, 4, none⟩ = some (.slice none 0 0) := (blk_cell Z5.out 4).trans rfl; have y4 : w5.frozen? ⟨w.heap.size + 1, 4, none⟩ = false := blk_frozen Z5.out 4; clear hb5))
  refine bodyPost_ret (results_ct rfl _ _ (w.heap.size + 1) 34 bx.toArray (0, 0) _ rfl (fivv_at w5 (w.heap.size + 1) ⟨#[]⟩ false 0 0 none 0 0 Z5.out) Tryd.underlying34 rfl (by kernel_rfl)) rfl ?_
  exact ⟨rfl, fivv_below w5 (w.heap.size + 1) ⟨#[]⟩ false 0 0 none 0 0 B5.out (Nat.le_succ _)⟩
set_option maxHeartbeats 2000000 in
set_option maxRecDepth 100000 in
theorem do1 (p : Value) (nm s : ByteArray) (A3 : Option Addr) (n3 c3 : Nat) (A4 : Option Addr) (n4 c4 : Nat) (n5 : Int) (ht : TextOk s) (w : World) (h : NoStk p w) : Calls Tryd.prog 19 #[p, .agg #[.int .i64 1, .string nm, .string s, .slice A3 n3 c3, .slice A4 n4 c4, .int .i64 n5]] w fun e w' => e = .returned (.tuple #[.agg bx.toArray, .int .i64 1]) ∧ Below w.heap.size w w' := by
  have hu34 := Tryd.underlying34
  have hu45 := Tryd.underlying45
  have hbx : bx = [.string ⟨#[]⟩, .bool false, .int .i64 0, .int .i64 0, .slice none 0 0] := rfl
  have HX := Aside0.mk (fun W (hW : NoStk p W) => same_below (macro_no p nm (.slice A3 n3 c3) (.slice A4 n4 c4) W hW))
  have e1 : (w.alloc (.cells #[.int .i64 1, .string nm, .string s, .slice A3 n3 c3, .slice A4 n4 c4, .int .i64 n5] 45)).heap.size = w.heap.size + 1 := by show (w.heap.push _).size = _; rw [Array.size_push]
  have Z := blk_new (w.alloc (.cells #[.int .i64 1, .string nm, .string s, .slice A3 n3 c3, .slice A4 n4 c4, .int .i64 n5] 45)) (.cells #[.string ⟨#[]⟩, .bool false, .int .i64 0, .int .i64 0, .slice none 0 0] 34)
  have Zd := Aside0.mk (blk_alloc (blk_new w (.cells #[.int .i64 1, .string nm, .string s, .slice A3 n3 c3, .slice A4 n4 c4, .int .i64 n5] 45)) (.cells #[.string ⟨#[]⟩, .bool false, .int .i64 0, .int .i64 0, .slice none 0 0] 34))
  rw [e1] at Z
  have Z := Aside0.mk Z
  have BA := Aside0.mk (below_alloc (below_alloc (Below.refl w.heap.size w) (.cells #[.int .i64 1, .string nm, .string s, .slice A3 n3 c3, .slice A4 n4 c4, .int .i64 n5] 45)) (.cells #[.string ⟨#[]⟩, .bool false, .int .i64 0, .int .i64 0, .slice none 0 0] 34))
  have H := Aside0.mk ((h.below (below_alloc (Below.refl w.heap.size w) (.cells #[.int .i64 1, .string nm, .string s, .slice A3 n3 c3, .slice A4 n4 c4, .int .i64 n5] 45))).below (below_alloc (Below.refl _ (w.alloc (.cells #[.int .i64 1, .string nm, .string s, .slice A3 n3 c3, .slice A4 n4 c4, .int .i64 n5] 45))) (.cells #[.string ⟨#[]⟩, .bool false, .int .i64 0, .int .i64 0, .slice none 0 0] 34)))
  clear h ht e1
  go_enter Tryd.func19, Tryd.ntmps19
  go_wp2_with (first | (go_at_call 13; refine (HX.out _ H.out).mono ?_; rintro e w5 ⟨rfl, hb5⟩; have Z5 := Aside0.mk (blk_below Z.out hb5); have B5 := Aside0.mk (BA.out.trans (hb5.mono BA.out.size)); have p0 : w5.cell? ⟨w.heap.size + 1, 0, none⟩ = some (.string ⟨#[]⟩) := (blk_cell Z5.out 0).trans rfl; have y0 : w5.frozen? ⟨w.heap.size + 1, 0, none⟩ = false := blk_frozen Z5.out 0; have p1 : w5.cell? ⟨w.heap.size + 1, 1, none⟩ = some (.bool false) := (blk_cell Z5.out 1).trans rfl; have y1 : w5.frozen? ⟨w.heap.size + 1, 1, none⟩ = false := blk_frozen Z5.out 1; have p2 : w5.cell? ⟨w.heap.size + 1, 2, none⟩ = some (.int .i64 0) := (blk_cell Z5.out 2).trans rfl; have y2 : w5.frozen? ⟨w.heap.size + 1, 2, none⟩ = false := blk_frozen Z5.out 2; have p3 : w5.cell? ⟨w.heap.size + 1, 3, none⟩ = some (.int .i64 0) := (blk_cell Z5.out 3).trans rfl; have y3 : w5.frozen? ⟨w.heap.size + 1, 3, none⟩ = false := blk_frozen Z5.out 3; have p4 : w5.cell? ⟨w.heap.size + 1, 4, none⟩ = some (.slice none 0 0) := (blk_cell Z5.out 4).trans rfl; have y4 : w5.frozen? ⟨w.heap.size + 1, 4, none⟩ = false := blk_frozen Z5.out 4; clear hb5))
  refine bodyPost_ret (results_ct rfl _ _ (w.heap.size + 1) 34 bx.toArray (0, 0) _ rfl (fivv_at w5 (w.heap.size + 1) ⟨#[]⟩ false 0 0 none 0 0 Z5.out) Tryd.underlying34 rfl (by kernel_rfl)) rfl ?_
  exact ⟨rfl, fivv_below w5 (w.heap.size + 1) ⟨#[]⟩ false 0 0 none 0 0 B5.out (Nat.le_succ _)⟩
set_option maxHeartbeats 2000000 in
set_option maxRecDepth 100000 in
theorem do2 (p : Value) (nm s : ByteArray) (A3 : Option Addr) (n3 c3 : Nat) (A4 : Option Addr) (n4 c4 : Nat) (n5 : Int) (ht : TextOk s) (w : World) (h : NoStk p w) : Calls Tryd.prog 19 #[p, .agg #[.int .i64 2, .string nm, .string s, .slice A3 n3 c3, .slice A4 n4 c4, .int .i64 n5]] w fun e w' => e = .returned (.tuple #[.agg bx.toArray, .int .i64 1]) ∧ Below w.heap.size w w' := by
  have hu34 := Tryd.underlying34
  have hu45 := Tryd.underlying45
  have hbx : bx = [.string ⟨#[]⟩, .bool false, .int .i64 0, .int .i64 0, .slice none 0 0] := rfl
  have HX := Aside0.mk (fun W (hW : NoStk p W) => same_below (wait_no p (.slice A3 n3 c3) W hW))
  have e1 : (w.alloc (.cells #[.int .i64 2, .string nm, .string s, .slice A3 n3 c3, .slice A4 n4 c4, .int .i64 n5] 45)).heap.size = w.heap.size + 1 := by show (w.heap.push _).size = _; rw [Array.size_push]
  have Z := blk_new (w.alloc (.cells #[.int .i64 2, .string nm, .string s, .slice A3 n3 c3, .slice A4 n4 c4, .int .i64 n5] 45)) (.cells #[.string ⟨#[]⟩, .bool false, .int .i64 0, .int .i64 0, .slice none 0 0] 34)
  have Zd := Aside0.mk (blk_alloc (blk_new w (.cells #[.int .i64 2, .string nm, .string s, .slice A3 n3 c3, .slice A4 n4 c4, .int .i64 n5] 45)) (.cells #[.string ⟨#[]⟩, .bool false, .int .i64 0, .int .i64 0, .slice none 0 0] 34))
  rw [e1] at Z
  have Z := Aside0.mk Z
  have BA := Aside0.mk (below_alloc (below_alloc (Below.refl w.heap.size w) (.cells #[.int .i64 2, .string nm, .string s, .slice A3 n3 c3, .slice A4 n4 c4, .int .i64 n5] 45)) (.cells #[.string ⟨#[]⟩, .bool false, .int .i64 0, .int .i64 0, .slice none 0 0] 34))
  have H := Aside0.mk ((h.below (below_alloc (Below.refl w.heap.size w) (.cells #[.int .i64 2, .string nm, .string s, .slice A3 n3 c3, .slice A4 n4 c4, .int .i64 n5] 45))).below (below_alloc (Below.refl _ (w.alloc (.cells #[.int .i64 2, .string nm, .string s, .slice A3 n3 c3, .slice A4 n4 c4, .int .i64 n5] 45))) (.cells #[.string ⟨#[]⟩, .bool false, .int .i64 0, .int .i64 0, .slice none 0 0] 34)))
  clear h ht e1
  go_enter Tryd.func19, Tryd.ntmps19
  go_wp2_with (first | (go_at_call 15; refine (HX.out _ H.out).mono ?_; rintro e w5 ⟨rfl, hb5⟩; have Z5 := Aside0.mk (blk_below Z.out hb5); have B5 := Aside0.mk (BA.out.trans (hb5.mono BA.out.size)); have p0 : w5.cell? ⟨w.heap.size + 1, 0, none⟩ = some (.string ⟨#[]⟩) := (blk_cell Z5.out 0).trans rfl; have y0 : w5.frozen? ⟨w.heap.size + 1, 0, none⟩ = false := blk_frozen Z5.out 0; have p1 : w5.cell? ⟨w.heap.size + 1, 1, none⟩ = some (.bool false) := (blk_cell Z5.out 1).trans rfl; have y1 : w5.frozen? ⟨w.heap.size + 1, 1, none⟩ = false := blk_frozen Z5.out 1; have p2 : w5.cell? ⟨w.heap.size + 1, 2, none⟩ = some (.int .i64 0) := (blk_cell Z5.out 2).trans rfl; have y2 : w5.frozen? ⟨w.heap.size + 1, 2, none⟩ = false := blk_frozen Z5.out 2; have p3 : w5.cell? ⟨w.heap.size + 1, 3, none⟩ = some (.int .i64 0) := (blk_cell Z5.out 3).trans rfl; have y3 : w5.frozen? ⟨w.heap.size + 1, 3, none⟩ = false := blk_frozen Z5.out 3; have p4 : w5.cell? ⟨w.heap.size + 1, 4, none⟩ = some (.slice none 0 0) := (blk_cell Z5.out 4).trans rfl; have y4 : w5.frozen? ⟨w.heap.size + 1, 4, none⟩ = false := blk_frozen Z5.out 4; clear hb5))
  refine bodyPost_ret (results_ct rfl _ _ (w.heap.size + 1) 34 bx.toArray (0, 0) _ rfl (fivv_at w5 (w.heap.size + 1) ⟨#[]⟩ false 0 0 none 0 0 Z5.out) Tryd.underlying34 rfl (by kernel_rfl)) rfl ?_
  exact ⟨rfl, fivv_below w5 (w.heap.size + 1) ⟨#[]⟩ false 0 0 none 0 0 B5.out (Nat.le_succ _)⟩
set_option maxHeartbeats 2000000 in
set_option maxRecDepth 100000 in
theorem do3 (p : Value) (nm s : ByteArray) (A3 : Option Addr) (n3 c3 : Nat) (A4 : Option Addr) (n4 c4 : Nat) (n5 : Int) (ht : TextOk s) (w : World) (h : NoStk p w) : Calls Tryd.prog 19 #[p, .agg #[.int .i64 3, .string nm, .string s, .slice A3 n3 c3, .slice A4 n4 c4, .int .i64 n5]] w fun e w' => e = .returned (.tuple #[.agg bx.toArray, .int .i64 1]) ∧ Below w.heap.size w w' := by
  have hu34 := Tryd.underlying34
  have hu45 := Tryd.underlying45
  have hbx : bx = [.string ⟨#[]⟩, .bool false, .int .i64 0, .int .i64 0, .slice none 0 0] := rfl
  have HX := Aside0.mk (fun W (hW : NoStk p W) => next_no p W hW)
  have e1 : (w.alloc (.cells #[.int .i64 3, .string nm, .string s, .slice A3 n3 c3, .slice A4 n4 c4, .int .i64 n5] 45)).heap.size = w.heap.size + 1 := by show (w.heap.push _).size = _; rw [Array.size_push]
  have Z := blk_new (w.alloc (.cells #[.int .i64 3, .string nm, .string s, .slice A3 n3 c3, .slice A4 n4 c4, .int .i64 n5] 45)) (.cells #[.string ⟨#[]⟩, .bool false, .int .i64 0, .int .i64 0, .slice none 0 0] 34)
  have Zd := Aside0.mk (blk_alloc (blk_new w (.cells #[.int .i64 3, .string nm, .string s, .slice A3 n3 c3, .slice A4 n4 c4, .int .i64 n5] 45)) (.cells #[.string ⟨#[]⟩, .bool false, .int .i64 0, .int .i64 0, .slice none 0 0] 34))
  rw [e1] at Z
  have Z := Aside0.mk Z
  have BA := Aside0.mk (below_alloc (below_alloc (Below.refl w.heap.size w) (.cells #[.int .i64 3, .string nm, .string s, .slice A3 n3 c3, .slice A4 n4 c4, .int .i64 n5] 45)) (.cells #[.string ⟨#[]⟩, .bool false, .int .i64 0, .int .i64 0, .slice none 0 0] 34))
  have H := Aside0.mk ((h.below (below_alloc (Below.refl w.heap.size w) (.cells #[.int .i64 3, .string nm, .string s, .slice A3 n3 c3, .slice A4 n4 c4, .int .i64 n5] 45))).below (below_alloc (Below.refl _ (w.alloc (.cells #[.int .i64 3, .string nm, .string s, .slice A3 n3 c3, .slice A4 n4 c4, .int .i64 n5] 45))) (.cells #[.string ⟨#[]⟩, .bool false, .int .i64 0, .int .i64 0, .slice none 0 0] 34)))
  clear h ht e1
  go_enter Tryd.func19, Tryd.ntmps19
  go_wp2_with (first | (go_at_call 16; refine (HX.out _ H.out).mono ?_; rintro e w5 ⟨rfl, hb5⟩; have Z5 := Aside0.mk (blk_below Z.out hb5); have B5 := Aside0.mk (BA.out.trans (hb5.mono BA.out.size)); have p0 : w5.cell? ⟨w.heap.size + 1, 0, none⟩ = some (.string ⟨#[]⟩) := (blk_cell Z5.out 0).trans rfl; have y0 : w5.frozen? ⟨w.heap.size + 1, 0, none⟩ = false := blk_frozen Z5.out 0; have p1 : w5.cell? ⟨w.heap.size + 1, 1, none⟩ = some (.bool false) := (blk_cell Z5.out 1).trans rfl; have y1 : w5.frozen? ⟨w.heap.size + 1, 1, none⟩ = false := blk_frozen Z5.out 1; have p2 : w5.cell? ⟨w.heap.size + 1, 2, none⟩ = some (.int .i64 0) := (blk_cell Z5.out 2).trans rfl; have y2 : w5.frozen? ⟨w.heap.size + 1, 2, none⟩ = false := blk_frozen Z5.out 2; have p3 : w5.cell? ⟨w.heap.size + 1, 3, none⟩ = some (.int .i64 0) := (blk_cell Z5.out 3).trans rfl; have y3 : w5.frozen? ⟨w.heap.size + 1, 3, none⟩ = false := blk_frozen Z5.out 3; have p4 : w5.cell? ⟨w.heap.size + 1, 4, none⟩ = some (.slice none 0 0) := (blk_cell Z5.out 4).trans rfl; have y4 : w5.frozen? ⟨w.heap.size + 1, 4, none⟩ = false := blk_frozen Z5.out 4; clear hb5))
  refine bodyPost_ret (results_ct rfl _ _ (w.heap.size + 1) 34 bx.toArray (0, 0) _ rfl (fivv_at w5 (w.heap.size + 1) ⟨#[]⟩ false 0 0 none 0 0 Z5.out) Tryd.underlying34 rfl (by kernel_rfl)) rfl ?_
  exact ⟨rfl, fivv_below w5 (w.heap.size + 1) ⟨#[]⟩ false 0 0 none 0 0 B5.out (Nat.le_succ _)⟩
set_option maxHeartbeats 2000000 in
set_option maxRecDepth 100000 in
theorem do4 (p : Value) (nm s : ByteArray) (A3 : Option Addr) (n3 c3 : Nat) (A4 : Option Addr) (n4 c4 : Nat) (n5 : Int) (ht : TextOk s) (w : World) (h : NoStk p w) : Calls Tryd.prog 19 #[p, .agg #[.int .i64 4, .string nm, .string s, .slice A3 n3 c3, .slice A4 n4 c4, .int .i64 n5]] w fun e w' => e = .returned (.tuple #[.agg bx.toArray, .int .i64 1]) ∧ Below w.heap.size w w' := by
  have hu34 := Tryd.underlying34
  have hu45 := Tryd.underlying45
  have hbx : bx = [.string ⟨#[]⟩, .bool false, .int .i64 0, .int .i64 0, .slice none 0 0] := rfl
  have HX := Aside0.mk (fun W (hW : NoStk p W) => peek_no p W hW)
  have e1 : (w.alloc (.cells #[.int .i64 4, .string nm, .string s, .slice A3 n3 c3, .slice A4 n4 c4, .int .i64 n5] 45)).heap.size = w.heap.size + 1 := by show (w.heap.push _).size = _; rw [Array.size_push]
  have Z := blk_new (w.alloc (.cells #[.int .i64 4, .string nm, .string s, .slice A3 n3 c3, .slice A4 n4 c4, .int .i64 n5] 45)) (.cells #[.string ⟨#[]⟩, .bool false, .int .i64 0, .int .i64 0, .slice none 0 0] 34)
  have Zd := Aside0.mk (blk_alloc (blk_new w (.cells #[.int .i64 4, .string nm, .string s, .slice A3 n3 c3, .slice A4 n4 c4, .int .i64 n5] 45)) (.cells #[.string ⟨#[]⟩, .bool false, .int .i64 0, .int .i64 0, .slice none 0 0] 34))
  rw [e1] at Z
  have Z := Aside0.mk Z
  have BA := Aside0.mk (below_alloc (below_alloc (Below.refl w.heap.size w) (.cells #[.int .i64 4, .string nm, .string s, .slice A3 n3 c3, .slice A4 n4 c4, .int .i64 n5] 45)) (.cells #[.string ⟨#[]⟩, .bool false, .int .i64 0, .int .i64 0, .slice none 0 0] 34))
  have H := Aside0.mk ((h.below (below_alloc (Below.refl w.heap.size w) (.cells #[.int .i64 4, .string nm, .string s, .slice A3 n3 c3, .slice A4 n4 c4, .int .i64 n5] 45))).below (below_alloc (Below.refl _ (w.alloc (.cells #[.int .i64 4, .string nm, .string s, .slice A3 n3 c3, .slice A4 n4 c4, .int .i64 n5] 45))) (.cells #[.string ⟨#[]⟩, .bool false, .int .i64 0, .int .i64 0, .slice none 0 0] 34)))
  clear h ht e1
  go_enter Tryd.func19, Tryd.ntmps19
  go_wp2_with (first | (go_at_call 39; refine (HX.out _ H.out).mono ?_; rintro e w5 ⟨rfl, hb5⟩; have Z5 := Aside0.mk (blk_below Z.out hb5); have B5 := Aside0.mk (BA.out.trans (hb5.mono BA.out.size)); have p0 : w5.cell? ⟨w.heap.size + 1, 0, none⟩ = some (.string ⟨#[]⟩) := (blk_cell Z5.out 0).trans rfl; have y0 : w5.frozen? ⟨w.heap.size + 1, 0, none⟩ = false := blk_frozen Z5.out 0; have p1 : w5.cell? ⟨w.heap.size + 1, 1, none⟩ = some (.bool false) := (blk_cell Z5.out 1).trans rfl; have y1 : w5.frozen? ⟨w.heap.size + 1, 1, none⟩ = false := blk_frozen Z5.out 1; have p2 : w5.cell? ⟨w.heap.size + 1, 2, none⟩ = some (.int .i64 0) := (blk_cell Z5.out 2).trans rfl; have y2 : w5.frozen? ⟨w.heap.size + 1, 2, none⟩ = false := blk_frozen Z5.out 2; have p3 : w5.cell? ⟨w.heap.size + 1, 3, none⟩ = some (.int .i64 0) := (blk_cell Z5.out 3).trans rfl; have y3 : w5.frozen? ⟨w.heap.size + 1, 3, none⟩ = false := blk_frozen Z5.out 3; have p4 : w5.cell? ⟨w.heap.size + 1, 4, none⟩ = some (.slice none 0 0) := (blk_cell Z5.out 4).trans rfl; have y4 : w5.frozen? ⟨w.heap.size + 1, 4, none⟩ = false := blk_frozen Z5.out 4; clear hb5))
  refine bodyPost_ret (results_ct rfl _ _ (w.heap.size + 1) 34 bx.toArray (0, 0) _ rfl (fivv_at w5 (w.heap.size + 1) ⟨#[]⟩ false 0 0 none 0 0 Z5.out) Tryd.underlying34 rfl (by kernel_rfl)) rfl ?_
  exact ⟨rfl, fivv_below w5 (w.heap.size + 1) ⟨#[]⟩ false 0 0 none 0 0 B5.out (Nat.le_succ _)⟩
set_option maxHeartbeats 2000000 in
set_option maxRecDepth 100000 in
theorem do5 (p : Value) (nm s : ByteArray) (A3 : Option Addr) (n3 c3 : Nat) (A4 : Option Addr) (n4 c4 : Nat) (n5 : Int) (ht : TextOk s) (w : World) (h : NoStk p w) : Calls Tryd.prog 19 #[p, .agg #[.int .i64 5, .string nm, .string s, .slice A3 n3 c3, .slice A4 n4 c4, .int .i64 n5]] w fun e w' => e = .returned (.tuple #[.agg bx.toArray, .int .i64 1]) ∧ Below w.heap.size w w' := by
  have hu34 := Tryd.underlying34
  have hu45 := Tryd.underlying45
  have hbx : bx = [.string ⟨#[]⟩, .bool false, .int .i64 0, .int .i64 0, .slice none 0 0] := rfl
  have HX := Aside0.mk (fun b W (hW : NoStk p W) => same_below (return_no p b W hW))
  have e1 : (w.alloc (.cells #[.int .i64 5, .string nm, .string s, .slice A3 n3 c3, .slice A4 n4 c4, .int .i64 n5] 45)).heap.size = w.heap.size + 1 := by show (w.heap.push _).size = _; rw [Array.size_push]
  have Z := blk_new (w.alloc (.cells #[.int .i64 5, .string nm, .string s, .slice A3 n3 c3, .slice A4 n4 c4, .int .i64 n5] 45)) (.cells #[.string ⟨#[]⟩, .bool false, .int .i64 0, .int .i64 0, .slice none 0 0] 34)
  have Zd := Aside0.mk (blk_alloc (blk_new w (.cells #[.int .i64 5, .string nm, .string s, .slice A3 n3 c3, .slice A4 n4 c4, .int .i64 n5] 45)) (.cells #[.string ⟨#[]⟩, .bool false, .int .i64 0, .int .i64 0, .slice none 0 0] 34))
  rw [e1] at Z
  have Z := Aside0.mk Z
  have BA := Aside0.mk (below_alloc (below_alloc (Below.refl w.heap.size w) (.cells #[.int .i64 5, .string nm, .string s, .slice A3 n3 c3, .slice A4 n4 c4, .int .i64 n5] 45)) (.cells #[.string ⟨#[]⟩, .bool false, .int .i64 0, .int .i64 0, .slice none 0 0] 34))
  have H := Aside0.mk ((h.below (below_alloc (Below.refl w.heap.size w) (.cells #[.int .i64 5, .string nm, .string s, .slice A3 n3 c3, .slice A4 n4 c4, .int .i64 n5] 45))).below (below_alloc (Below.refl _ (w.alloc (.cells #[.int .i64 5, .string nm, .string s, .slice A3 n3 c3, .slice A4 n4 c4, .int .i64 n5] 45))) (.cells #[.string ⟨#[]⟩, .bool false, .int .i64 0, .int .i64 0, .slice none 0 0] 34)))
  clear h ht e1
  go_enter Tryd.func19, Tryd.ntmps19
  go_wp2_with (first | (go_at_call 40; refine (HX.out _ _ H.out).mono ?_; rintro e w5 ⟨rfl, hb5⟩; have Z5 := Aside0.mk (blk_below Z.out hb5); have B5 := Aside0.mk (BA.out.trans (hb5.mono BA.out.size)); have p0 : w5.cell? ⟨w.heap.size + 1, 0, none⟩ = some (.string ⟨#[]⟩) := (blk_cell Z5.out 0).trans rfl; have y0 : w5.frozen? ⟨w.heap.size + 1, 0, none⟩ = false := blk_frozen Z5.out 0; have p1 : w5.cell? ⟨w.heap.size + 1, 1, none⟩ = some (.bool false) := (blk_cell Z5.out 1).trans rfl; have y1 : w5.frozen? ⟨w.heap.size + 1, 1, none⟩ = false := blk_frozen Z5.out 1; have p2 : w5.cell? ⟨w.heap.size + 1, 2, none⟩ = some (.int .i64 0) := (blk_cell Z5.out 2).trans rfl; have y2 : w5.frozen? ⟨w.heap.size + 1, 2, none⟩ = false := blk_frozen Z5.out 2; have p3 : w5.cell? ⟨w.heap.size + 1, 3, none⟩ = some (.int .i64 0) := (blk_cell Z5.out 3).trans rfl; have y3 : w5.frozen? ⟨w.heap.size + 1, 3, none⟩ = false := blk_frozen Z5.out 3; have p4 : w5.cell? ⟨w.heap.size + 1, 4, none⟩ = some (.slice none 0 0) := (blk_cell Z5.out 4).trans rfl; have y4 : w5.frozen? ⟨w.heap.size + 1, 4, none⟩ = false := blk_frozen Z5.out 4; clear hb5))
  refine bodyPost_ret (results_ct rfl _ _ (w.heap.size + 1) 34 bx.toArray (0, 0) _ rfl (fivv_at w5 (w.heap.size + 1) ⟨#[]⟩ false 0 0 none 0 0 Z5.out) Tryd.underlying34 rfl (by kernel_rfl)) rfl ?_
  exact ⟨rfl, fivv_below w5 (w.heap.size + 1) ⟨#[]⟩ false 0 0 none 0 0 B5.out (Nat.le_succ _)⟩
set_option maxHeartbeats 2000000 in
set_option maxRecDepth 100000 in
theorem do6 (p : Value) (nm s : ByteArray) (A3 : Option Addr) (n3 c3 : Nat) (A4 : Option Addr) (n4 c4 : Nat) (n5 : Int) (ht : TextOk s) (w : World) (h : NoStk p w) : Calls Tryd.prog 19 #[p, .agg #[.int .i64 6, .string nm, .string s, .slice A3 n3 c3, .slice A4 n4 c4, .int .i64 n5]] w fun e w' => e = .returned (.tuple #[.agg bx.toArray, .int .i64 1]) ∧ Below w.heap.size w w' := by
  have hu34 := Tryd.underlying34
  have hu45 := Tryd.underlying45
  have hbx : bx = [.string ⟨#[]⟩, .bool false, .int .i64 0, .int .i64 0, .slice none 0 0] := rfl
  have HX := Aside0.mk (fun W (hW : NoStk p W) => instead_no p nm s ht W hW)
  have e1 : (w.alloc (.cells #[.int .i64 6, .string nm, .string s, .slice A3 n3 c3, .slice A4 n4 c4, .int .i64 n5] 45)).heap.size = w.heap.size + 1 := by show (w.heap.push _).size = _; rw [Array.size_push]
  have Z := blk_new (w.alloc (.cells #[.int .i64 6, .string nm, .string s, .slice A3 n3 c3, .slice A4 n4 c4, .int .i64 n5] 45)) (.cells #[.string ⟨#[]⟩, .bool false, .int .i64 0, .int .i64 0, .slice none 0 0] 34)
  have Zd := Aside0.mk (blk_alloc (blk_new w (.cells #[.int .i64 6, .string nm, .string s, .slice A3 n3 c3, .slice A4 n4 c4, .int .i64 n5] 45)) (.cells #[.string ⟨#[]⟩, .bool false, .int .i64 0, .int .i64 0, .slice none 0 0] 34))
  rw [e1] at Z
  have Z := Aside0.mk Z
  have BA := Aside0.mk (below_alloc (below_alloc (Below.refl w.heap.size w) (.cells #[.int .i64 6, .string nm, .string s, .slice A3 n3 c3, .slice A4 n4 c4, .int .i64 n5] 45)) (.cells #[.string ⟨#[]⟩, .bool false, .int .i64 0, .int .i64 0, .slice none 0 0] 34))
  have H := Aside0.mk ((h.below (below_alloc (Below.refl w.heap.size w) (.cells #[.int .i64 6, .string nm, .string s, .slice A3 n3 c3, .slice A4 n4 c4, .int .i64 n5] 45))).below (below_alloc (Below.refl _ (w.alloc (.cells #[.int .i64 6, .string nm, .string s, .slice A3 n3 c3, .slice A4 n4 c4, .int .i64 n5] 45))) (.cells #[.string ⟨#[]⟩, .bool false, .int .i64 0, .int .i64 0, .slice none 0 0] 34)))
  clear h ht e1
  go_enter Tryd.func19, Tryd.ntmps19
  go_wp2_with (first | (go_at_call 41; refine (HX.out _ H.out).mono ?_; rintro e w5 ⟨rfl, hb5⟩; have Z5 := Aside0.mk (blk_below Z.out hb5); have B5 := Aside0.mk (BA.out.trans (hb5.mono BA.out.size)); have p0 : w5.cell? ⟨w.heap.size + 1, 0, none⟩ = some (.string ⟨#[]⟩) := (blk_cell Z5.out 0).trans rfl; have y0 : w5.frozen? ⟨w.heap.size + 1, 0, none⟩ = false := blk_frozen Z5.out 0; have p1 : w5.cell? ⟨w.heap.size + 1, 1, none⟩ = some (.bool false) := (blk_cell Z5.out 1).trans rfl; have y1 : w5.frozen? ⟨w.heap.size + 1, 1, none⟩ = false := blk_frozen Z5.out 1; have p2 : w5.cell? ⟨w.heap.size + 1, 2, none⟩ = some (.int .i64 0) := (blk_cell Z5.out 2).trans rfl; have y2 : w5.frozen? ⟨w.heap.size + 1, 2, none⟩ = false := blk_frozen Z5.out 2; have p3 : w5.cell? ⟨w.heap.size + 1, 3, none⟩ = some (.int .i64 0) := (blk_cell Z5.out 3).trans rfl; have y3 : w5.frozen? ⟨w.heap.size + 1, 3, none⟩ = false := blk_frozen Z5.out 3; have p4 : w5.cell? ⟨w.heap.size + 1, 4, none⟩ = some (.slice none 0 0) := (blk_cell Z5.out 4).trans rfl; have y4 : w5.frozen? ⟨w.heap.size + 1, 4, none⟩ = false := blk_frozen Z5.out 4; clear hb5))
  refine bodyPost_ret (results_ct rfl _ _ (w.heap.size + 1) 34 bx.toArray (0, 0) _ rfl (fivv_at w5 (w.heap.size + 1) ⟨#[]⟩ false 0 0 none 0 0 Z5.out) Tryd.underlying34 rfl (by kernel_rfl)) rfl ?_
  exact ⟨rfl, fivv_below w5 (w.heap.size + 1) ⟨#[]⟩ false 0 0 none 0 0 B5.out (Nat.le_succ _)⟩
set_option maxHeartbeats 2000000 in
set_option maxRecDepth 100000 in
theorem do7 (p : Value) (nm s : ByteArray) (A3 : Option Addr) (n3 c3 : Nat) (A4 : Option Addr) (n4 c4 : Nat) (n5 : Int) (ht : TextOk s) (w : World) (h : NoStk p w) : Calls Tryd.prog 19 #[p, .agg #[.int .i64 7, .string nm, .string s, .slice A3 n3 c3, .slice A4 n4 c4, .int .i64 n5]] w fun e w' => e = .returned (.tuple #[.agg bx.toArray, .int .i64 1]) ∧ Below w.heap.size w w' := by
  have hu34 := Tryd.underlying34
  have hu45 := Tryd.underlying45
  have hbx : bx = [.string ⟨#[]⟩, .bool false, .int .i64 0, .int .i64 0, .slice none 0 0] := rfl
  have HX := Aside0.mk (fun W (hW : NoStk p W) => same_below (shift_no p n5 W hW))
  have e1 : (w.alloc (.cells #[.int .i64 7, .string nm, .string s, .slice A3 n3 c3, .slice A4 n4 c4, .int .i64 n5] 45)).heap.size = w.heap.size + 1 := by show (w.heap.push _).size = _; rw [Array.size_push]
  have Z := blk_new (w.alloc (.cells #[.int .i64 7, .string nm, .string s, .slice A3 n3 c3, .slice A4 n4 c4, .int .i64 n5] 45)) (.cells #[.string ⟨#[]⟩, .bool false, .int .i64 0, .int .i64 0, .slice none 0 0] 34)
  have Zd := Aside0.mk (blk_alloc (blk_new w (.cells #[.int .i64 7, .string nm, .string s, .slice A3 n3 c3, .slice A4 n4 c4, .int .i64 n5] 45)) (.cells #[.string ⟨#[]⟩, .bool false, .int .i64 0, .int .i64 0, .slice none 0 0] 34))
  rw [e1] at Z
  have Z := Aside0.mk Z
  have BA := Aside0.mk (below_alloc (below_alloc (Below.refl w.heap.size w) (.cells #[.int .i64 7, .string nm, .string s, .slice A3 n3 c3, .slice A4 n4 c4, .int .i64 n5] 45)) (.cells #[.string ⟨#[]⟩, .bool false, .int .i64 0, .int .i64 0, .slice none 0 0] 34))
  have H := Aside0.mk ((h.below (below_alloc (Below.refl w.heap.size w) (.cells #[.int .i64 7, .string nm, .string s, .slice A3 n3 c3, .slice A4 n4 c4, .int .i64 n5] 45))).below (below_alloc (Below.refl _ (w.alloc (.cells #[.int .i64 7, .string nm, .string s, .slice A3 n3 c3, .slice A4 n4 c4, .int .i64 n5] 45))) (.cells #[.string ⟨#[]⟩, .bool false, .int .i64 0, .int .i64 0, .slice none 0 0] 34)))
  clear h ht e1
  go_enter Tryd.func19, Tryd.ntmps19
  go_wp2_with (first | (go_at_call 42; refine (HX.out _ H.out).mono ?_; rintro e w5 ⟨rfl, hb5⟩; have Z5 := Aside0.mk (blk_below Z.out hb5); have B5 := Aside0.mk (BA.out.trans (hb5.mono BA.out.size)); have p0 : w5.cell? ⟨w.heap.size + 1, 0, none⟩ = some (.string ⟨#[]⟩) := (blk_cell Z5.out 0).trans rfl; have y0 : w5.frozen? ⟨w.heap.size + 1, 0, none⟩ = false := blk_frozen Z5.out 0; have p1 : w5.cell? ⟨w.heap.size + 1, 1, none⟩ = some (.bool false) := (blk_cell Z5.out 1).trans rfl; have y1 : w5.frozen? ⟨w.heap.size + 1, 1, none⟩ = false := blk_frozen Z5.out 1; have p2 : w5.cell? ⟨w.heap.size + 1, 2, none⟩ = some (.int .i64 0) := (blk_cell Z5.out 2).trans rfl; have y2 : w5.frozen? ⟨w.heap.size + 1, 2, none⟩ = false := blk_frozen Z5.out 2; have p3 : w5.cell? ⟨w.heap.size + 1, 3, none⟩ = some (.int .i64 0) := (blk_cell Z5.out 3).trans rfl; have y3 : w5.frozen? ⟨w.heap.size + 1, 3, none⟩ = false := blk_frozen Z5.out 3; have p4 : w5.cell? ⟨w.heap.size + 1, 4, none⟩ = some (.slice none 0 0) := (blk_cell Z5.out 4).trans rfl; have y4 : w5.frozen? ⟨w.heap.size + 1, 4, none⟩ = false := blk_frozen Z5.out 4; clear hb5))
  refine bodyPost_ret (results_ct rfl _ _ (w.heap.size + 1) 34 bx.toArray (0, 0) _ rfl (fivv_at w5 (w.heap.size + 1) ⟨#[]⟩ false 0 0 none 0 0 Z5.out) Tryd.underlying34 rfl (by kernel_rfl)) rfl ?_
  exact ⟨rfl, fivv_below w5 (w.heap.size + 1) ⟨#[]⟩ false 0 0 none 0 0 B5.out (Nat.le_succ _)⟩
end Go.Proofs.YtagadehcbpoihaaDoor.Nil5

namespace Go.Proofs.YtagadehcbpoihaaDoor.Nil5
open Go.RowKit Go.Proofs.YtagadehcbpoihaaDoorW.PrintWords Go.Proofs.YtagadehcbpoihaaDoorW.PrintLast Go.Proofs.YtagadehcbpoihaaDoorW.PrintMore Go.Proofs.YtagadehcbpoihaaDoorN Go.Proofs.YtagadehcbpoihaaDoor.Sane5
set_option linter.unusedVariables false
set_option linter.unusedSimpArgs false
set_option maxHeartbeats 2000000 in
set_option maxRecDepth 100000 in
theorem same_bx (g g2 : Nat) (w : World) (h1 : w.heap[g]? = some (.cells bx.toArray 34 (0, 0))) (h2 : w.heap[g2]? = some (.cells bx.toArray 34 (0, 0))) : Calls Tryd.prog 54 #[.slice (some ⟨g, 0, none⟩) 1 1, .slice (some ⟨g2, 0, none⟩) 1 1] w fun e w' => e = .returned (.bool true) ∧ Below w.heap.size w w' := by
  have hu34 := Tryd.underlying34
  have a0 : w.cell? ⟨g, 0, none⟩ = some (.string ⟨#[]⟩) := (blk_cell h1 0).trans rfl
  have a1 : w.cell? ⟨g, 1, none⟩ = some (.bool false) := (blk_cell h1 1).trans rfl
  have a2 : w.cell? ⟨g, 2, none⟩ = some (.int .i64 0) := (blk_cell h1 2).trans rfl
  have a3 : w.cell? ⟨g, 3, none⟩ = some (.int .i64 0) := (blk_cell h1 3).trans rfl
  have a4 : w.cell? ⟨g, 4, none⟩ = some (.slice none 0 0) := (blk_cell h1 4).trans rfl
  have b0 : w.cell? ⟨g2, 0, none⟩ = some (.string ⟨#[]⟩) := (blk_cell h2 0).trans rfl
  have b1 : w.cell? ⟨g2, 1, none⟩ = some (.bool false) := (blk_cell h2 1).trans rfl
  have b2 : w.cell? ⟨g2, 2, none⟩ = some (.int .i64 0) := (blk_cell h2 2).trans rfl
  have b3 : w.cell? ⟨g2, 3, none⟩ = some (.int .i64 0) := (blk_cell h2 3).trans rfl
  have b4 : w.cell? ⟨g2, 4, none⟩ = some (.slice none 0 0) := (blk_cell h2 4).trans rfl
  have ax0 : ∀ o, (w.alloc o).cell? ⟨g, 0, none⟩ = some (.string ⟨#[]⟩) := fun o => (blk_cell (blk_alloc h1 o) 0).trans rfl
  have ay0 : ∀ o o2, ((w.alloc o).alloc o2).cell? ⟨g, 0, none⟩ = some (.string ⟨#[]⟩) := fun o o2 => (blk_cell (blk_alloc (blk_alloc h1 o) o2) 0).trans rfl
  have ax1 : ∀ o, (w.alloc o).cell? ⟨g, 1, none⟩ = some (.bool false) := fun o => (blk_cell (blk_alloc h1 o) 1).trans rfl
  have ay1 : ∀ o o2, ((w.alloc o).alloc o2).cell? ⟨g, 1, none⟩ = some (.bool false) := fun o o2 => (blk_cell (blk_alloc (blk_alloc h1 o) o2) 1).trans rfl
  have ax2 : ∀ o, (w.alloc o).cell? ⟨g, 2, none⟩ = some (.int .i64 0) := fun o => (blk_cell (blk_alloc h1 o) 2).trans rfl
  have ay2 : ∀ o o2, ((w.alloc o).alloc o2).cell? ⟨g, 2, none⟩ = some (.int .i64 0) := fun o o2 => (blk_cell (blk_alloc (blk_alloc h1 o) o2) 2).trans rfl
  have ax3 : ∀ o, (w.alloc o).cell? ⟨g, 3, none⟩ = some (.int .i64 0) := fun o => (blk_cell (blk_alloc h1 o) 3).trans rfl
  have ay3 : ∀ o o2, ((w.alloc o).alloc o2).cell? ⟨g, 3, none⟩ = some (.int .i64 0) := fun o o2 => (blk_cell (blk_alloc (blk_alloc h1 o) o2) 3).trans rfl
  have ax4 : ∀ o, (w.alloc o).cell? ⟨g, 4, none⟩ = some (.slice none 0 0) := fun o => (blk_cell (blk_alloc h1 o) 4).trans rfl
  have ay4 : ∀ o o2, ((w.alloc o).alloc o2).cell? ⟨g, 4, none⟩ = some (.slice none 0 0) := fun o o2 => (blk_cell (blk_alloc (blk_alloc h1 o) o2) 4).trans rfl
  have bx0 : ∀ o, (w.alloc o).cell? ⟨g2, 0, none⟩ = some (.string ⟨#[]⟩) := fun o => (blk_cell (blk_alloc h2 o) 0).trans rfl
  have by0 : ∀ o o2, ((w.alloc o).alloc o2).cell? ⟨g2, 0, none⟩ = some (.string ⟨#[]⟩) := fun o o2 => (blk_cell (blk_alloc (blk_alloc h2 o) o2) 0).trans rfl
  have bx1 : ∀ o, (w.alloc o).cell? ⟨g2, 1, none⟩ = some (.bool false) := fun o => (blk_cell (blk_alloc h2 o) 1).trans rfl
  have by1 : ∀ o o2, ((w.alloc o).alloc o2).cell? ⟨g2, 1, none⟩ = some (.bool false) := fun o o2 => (blk_cell (blk_alloc (blk_alloc h2 o) o2) 1).trans rfl
  have bx2 : ∀ o, (w.alloc o).cell? ⟨g2, 2, none⟩ = some (.int .i64 0) := fun o => (blk_cell (blk_alloc h2 o) 2).trans rfl
  have by2 : ∀ o o2, ((w.alloc o).alloc o2).cell? ⟨g2, 2, none⟩ = some (.int .i64 0) := fun o o2 => (blk_cell (blk_alloc (blk_alloc h2 o) o2) 2).trans rfl
  have bx3 : ∀ o, (w.alloc o).cell? ⟨g2, 3, none⟩ = some (.int .i64 0) := fun o => (blk_cell (blk_alloc h2 o) 3).trans rfl
  have by3 : ∀ o o2, ((w.alloc o).alloc o2).cell? ⟨g2, 3, none⟩ = some (.int .i64 0) := fun o o2 => (blk_cell (blk_alloc (blk_alloc h2 o) o2) 3).trans rfl
  have bx4 : ∀ o, (w.alloc o).cell? ⟨g2, 4, none⟩ = some (.slice none 0 0) := fun o => (blk_cell (blk_alloc h2 o) 4).trans rfl
  have by4 : ∀ o o2, ((w.alloc o).alloc o2).cell? ⟨g2, 4, none⟩ = some (.slice none 0 0) := fun o o2 => (blk_cell (blk_alloc (blk_alloc h2 o) o2) 4).trans rfl
  clear h1 h2
  go_enter Tryd.func54, Tryd.ntmps54
  go_wp2
  go_loopg [5] 2 (fun kq v5 w' => (Aside0 (kq = 2) ∧ v5 = .int .i64 0 ∧ w' = w) ∨ (Aside0 (kq = 1) ∧ v5 = .int .i64 1 ∧ Aside0 (Below w.heap.size w w')))
  case atStart => exact Or.inl ⟨⟨rfl⟩, rfl, rfl⟩
  case round =>
    rcases hrel with ⟨⟨rfl⟩, rfl, rfl⟩ | ⟨⟨rfl⟩, rfl, B⟩
    · go_wp2
      go_region
      all_goals
        have BA := Aside0.mk (show Below wr.heap.size wr ((wr.alloc (.cells #[.string ⟨#[]⟩, .bool false, .int .i64 0, .int .i64 0, .slice none 0 0] 34)).alloc (.cells #[.string ⟨#[]⟩, .bool false, .int .i64 0, .int .i64 0, .slice none 0 0] 34)).drew from below_drew1 (below_alloc (below_alloc (Below.refl wr.heap.size wr) (.cells #[.string ⟨#[]⟩, .bool false, .int .i64 0, .int .i64 0, .slice none 0 0] 34)) (.cells #[.string ⟨#[]⟩, .bool false, .int .i64 0, .int .i64 0, .slice none 0 0] 34)))
        go_wp2
        go_loopg [8] 1 (fun kq v8 w' => v8 = .int .i64 0 ∧ w' = ((wr.alloc (.cells #[.string ⟨#[]⟩, .bool false, .int .i64 0, .int .i64 0, .slice none 0 0] 34)).alloc (.cells #[.string ⟨#[]⟩, .bool false, .int .i64 0, .int .i64 0, .slice none 0 0] 34)).drew)
        case atStart => exact ⟨rfl, rfl⟩
        case round =>
          obtain ⟨rfl, rfl⟩ := hrel
          go_wp2
          go_roundg 1
          case measure => omega
          case rel => exact Or.inr ⟨⟨rfl⟩, rfl, BA⟩
    · go_wp2
      refine bodyPost_ret (results_tmp rfl _ _ _) rfl ?_
      exact ⟨rfl, B.out⟩
theorem sz1 (w : World) (o : Obj) : (w.alloc o).heap.size = w.heap.size + 1 := by show (w.heap.push _).size = _; rw [Array.size_push]
theorem at2 (w : World) : (((w.alloc (.cells #[.string ⟨#[]⟩, .bool false, .int .i64 0, .int .i64 0, .slice none 0 0] 34)).alloc (.cells #[.string ⟨#[]⟩, .bool false, .int .i64 0, .int .i64 0, .slice none 0 0] 34)).alloc (.cells #[.string ⟨#[]⟩, .bool false, .int .i64 0, .int .i64 0, .slice none 0 0] 34)).heap[w.heap.size + 1 + 1]? = some (.cells bx.toArray 34 (0, 0)) := by
  have h := blk_new ((w.alloc (.cells #[.string ⟨#[]⟩, .bool false, .int .i64 0, .int .i64 0, .slice none 0 0] 34)).alloc (.cells #[.string ⟨#[]⟩, .bool false, .int .i64 0, .int .i64 0, .slice none 0 0] 34)) (.cells #[.string ⟨#[]⟩, .bool false, .int .i64 0, .int .i64 0, .slice none 0 0] 34)
  rw [sz1, sz1] at h
  exact h
theorem at3 (w : World) : ((((w.alloc (.cells #[.string ⟨#[]⟩, .bool false, .int .i64 0, .int .i64 0, .slice none 0 0] 34)).alloc (.cells #[.string ⟨#[]⟩, .bool false, .int .i64 0, .int .i64 0, .slice none 0 0] 34)).alloc (.cells #[.string ⟨#[]⟩, .bool false, .int .i64 0, .int .i64 0, .slice none 0 0] 34)).alloc (.cells #[.string ⟨#[]⟩, .bool false, .int .i64 0, .int .i64 0, .slice none 0 0] 34)).heap[w.heap.size + 1 + 1 + 1]? = some (.cells bx.toArray 34 (0, 0)) := by
  have h := blk_new (((w.alloc (.cells #[.string ⟨#[]⟩, .bool false, .int .i64 0, .int .i64 0, .slice none 0 0] 34)).alloc (.cells #[.string ⟨#[]⟩, .bool false, .int .i64 0, .int .i64 0, .slice none 0 0] 34)).alloc (.cells #[.string ⟨#[]⟩, .bool false, .int .i64 0, .int .i64 0, .slice none 0 0] 34)) (.cells #[.string ⟨#[]⟩, .bool false, .int .i64 0, .int .i64 0, .slice none 0 0] 34)
  rw [sz1, sz1, sz1] at h
  exact h
set_option maxHeartbeats 2000000 in
set_option maxRecDepth 100000 in
theorem line_bx (w : World) : Calls Tryd.prog 24 #[.agg bx.toArray, .agg bx.toArray] w fun e w' => e = .returned (.bool true) ∧ Below w.heap.size w w' := by
  have hu34 := Tryd.underlying34
  have hbx : bx = [.string ⟨#[]⟩, .bool false, .int .i64 0, .int .i64 0, .slice none 0 0] := rfl
  have HX := Aside0.mk (same_bx _ _ _ (blk_alloc (at2 w) (.cells #[.string ⟨#[]⟩, .bool false, .int .i64 0, .int .i64 0, .slice none 0 0] 34)) (at3 w))
  have BA := Aside0.mk (below_alloc (below_alloc (below_alloc (below_alloc (Below.refl w.heap.size w) (.cells #[.string ⟨#[]⟩, .bool false, .int .i64 0, .int .i64 0, .slice none 0 0] 34)) (.cells #[.string ⟨#[]⟩, .bool false, .int .i64 0, .int .i64 0, .slice none 0 0] 34)) (.cells #[.string ⟨#[]⟩, .bool false, .int .i64 0, .int .i64 0, .slice none 0 0] 34)) (.cells #[.string ⟨#[]⟩, .bool false, .int .i64 0, .int .i64 0, .slice none 0 0] 34))
  go_enter Tryd.func24, Tryd.ntmps24
  go_wp2_with (first | (go_at_call 54; refine (HX.out).mono ?_; rintro e w5 ⟨rfl, hb5⟩; have B5 := Aside0.mk (BA.out.trans (hb5.mono BA.out.size)); clear hb5))
  refine bodyPost_ret (results_tmp rfl _ _ _) rfl ?_
  exact ⟨rfl, B5.out⟩
end Go.Proofs.YtagadehcbpoihaaDoor.Nil5

namespace Go.Proofs.YtagadehcbpoihaaDoor.Nil5
open Go.RowKit Go.Proofs.YtagadehcbpoihaaDoorW.PrintWords Go.Proofs.YtagadehcbpoihaaDoorW.PrintLast Go.Proofs.YtagadehcbpoihaaDoorW.PrintMore Go.Proofs.YtagadehcbpoihaaDoorN Go.Proofs.YtagadehcbpoihaaDoor.Sane5 Go.Proofs.YtagadehcbpoihaaDoor.QNo
set_option linter.unusedVariables false
set_option linter.unusedSimpArgs false
/-- A deed's cells. -/
def dc (a0 : Int) (nm s : ByteArray) (A3 : Option Addr) (n3 c3 : Nat) (A4 : Option Addr) (n4 c4 : Nat) (a5 : Int) : List Value := [.int .i64 a0, .string nm, .string s, .slice A3 n3 c3, .slice A4 n4 c4, .int .i64 a5]
theorem do_no (n : Int) (h0 : 0 ≤ n) (h8 : n < 8) (p : Value) (nm s : ByteArray) (A3 : Option Addr) (n3 c3 : Nat) (A4 : Option Addr) (n4 c4 : Nat) (n5 : Int) (ht : TextOk s) (w : World) (h : NoStk p w) : Calls Tryd.prog 19 #[p, .agg (dc n nm s A3 n3 c3 A4 n4 c4 n5).toArray] w fun e w' => e = .returned (.tuple #[.agg bx.toArray, .int .i64 1]) ∧ Below w.heap.size w w' := by
  have hc : n = 0 ∨ n = 1 ∨ n = 2 ∨ n = 3 ∨ n = 4 ∨ n = 5 ∨ n = 6 ∨ n = 7 := by omega
  rcases hc with rfl | rfl | rfl | rfl | rfl | rfl | rfl | rfl
  · exact do0 p nm s A3 n3 c3 A4 n4 c4 n5 ht w h
  · exact do1 p nm s A3 n3 c3 A4 n4 c4 n5 ht w h
  · exact do2 p nm s A3 n3 c3 A4 n4 c4 n5 ht w h
  · exact do3 p nm s A3 n3 c3 A4 n4 c4 n5 ht w h
  · exact do4 p nm s A3 n3 c3 A4 n4 c4 n5 ht w h
  · exact do5 p nm s A3 n3 c3 A4 n4 c4 n5 ht w h
  · exact do6 p nm s A3 n3 c3 A4 n4 c4 n5 ht w h
  · exact do7 p nm s A3 n3 c3 A4 n4 c4 n5 ht w h
theorem m8 (n : Int) : 0 ≤ wrap64 ((IntKind.u64.wrap n).tmod 8) ∧ wrap64 ((IntKind.u64.wrap n).tmod 8) < 8 := by
  have h0 : 0 ≤ IntKind.u64.wrap n := by
    show 0 ≤ n % 18446744073709551616
    omega
  rw [Int.tmod_eq_emod_of_nonneg h0]
  generalize IntKind.u64.wrap n = m at h0
  unfold wrap64
  omega
theorem dc_one (a0 : Int) (nm s : ByteArray) (A3 : Option Addr) (n3 c3 : Nat) (A4 : Option Addr) (n4 c4 : Nat) (a5 : Int) : ∀ u ∈ dc a0 nm s A3 n3 c3 A4 n4 c4 a5, u.oneCell' = true := by
  intro u hu
  simp only [dc, List.mem_cons, List.not_mem_nil, or_false] at hu
  rcases hu with rfl | rfl | rfl | rfl | rfl | rfl <;> rfl
theorem deed_read (W : World) (d : S45) (cs : List Value) (hl : cs.length = 6) (t : TypeId) (g : Nat) (hg : W.heap[g]? = some (.cells cs.toArray t (0, 0))) (hk : k45.K W d cs) : Kd.C k45 W (some ⟨g, 0, none⟩) 1 [d] := by
  refine ⟨rfl, by decide, fun _ => ⟨_, rfl, fun j p hj => ?_⟩⟩
  cases j with
  | succ j => simp at hj
  | zero =>
    obtain rfl : d = p := by simpa using hj
    refine ⟨cs, hl, hk, fun i u hu => ?_⟩
    rw [add_at, Nat.zero_add, Nat.zero_mul, Nat.zero_add, blk_cell hg]
    simpa using hu
set_option maxHeartbeats 8000000 in
set_option maxRecDepth 100000 in
theorem nothing_calls (a0 : Int) (nm s : ByteArray) (A3 : Option Addr) (c3 : Nat) (l3 : List S34) (A4 : Option Addr) (c4 : Nat) (l4 : List ByteArray) (a5 : Int) (k : Nat) (b : Bool) (hb : frisketlaw05_big.f k [⟨a0, nm, s, l3, l4, a5⟩] = some b) (hs : b = false → TextOk s) (w : World)
    (hr3 : Kd.C k34 w A3 l3.length l3) (hc3 : l3.length ≤ c3) (hr4 : Kd.C Kd.string w A4 l4.length l4) (hc4 : l4.length ≤ c4) :
    Calls Tryd.prog 7 #[.agg (dc a0 nm s A3 l3.length c3 A4 l4.length c4 a5).toArray] w fun e w' => e = .returned (.bool true) ∧ Below w.heap.size w w' := by
  have HK := Aside0.mk (k45_mk w ⟨a0, nm, s, l3, l4, a5⟩ hc3 hr3 hc4 hr4)
  have hu34 := Tryd.underlying34
  have hu45 := Tryd.underlying45
  have HS := Aside0.mk (fun W => sane_calls W)
  have HG := Aside0.mk (fun A0 W hC => frisketlaw05_big.calls k A0 1 [⟨a0, nm, s, l3, l4, a5⟩] b W hC (Nat.le_refl 1) hb)
  have hdc : dc a0 nm s A3 l3.length c3 A4 l4.length c4 a5 = [.int .i64 a0, .string nm, .string s, .slice A3 l3.length c3, .slice A4 l4.length c4, .int .i64 a5] := rfl
  clear hr3 hc3 hr4 hc4 hb
  have Z1 := Aside0.mk (blk_alloc (blk_new w (.cells #[.int .i64 a0, .string nm, .string s, .slice A3 l3.length c3, .slice A4 l4.length c4, .int .i64 a5] 45)) (.cells #[.int .i64 a0, .string nm, .string s, .slice A3 l3.length c3, .slice A4 l4.length c4, .int .i64 a5] 45))
  have Z2 := blk_new (w.alloc (.cells #[.int .i64 a0, .string nm, .string s, .slice A3 l3.length c3, .slice A4 l4.length c4, .int .i64 a5] 45)) (.cells #[.int .i64 a0, .string nm, .string s, .slice A3 l3.length c3, .slice A4 l4.length c4, .int .i64 a5] 45)
  rw [sz1] at Z2
  have BA := Aside0.mk (below_alloc (below_alloc (Below.refl w.heap.size w) (.cells #[.int .i64 a0, .string nm, .string s, .slice A3 l3.length c3, .slice A4 l4.length c4, .int .i64 a5] 45)) (.cells #[.int .i64 a0, .string nm, .string s, .slice A3 l3.length c3, .slice A4 l4.length c4, .int .i64 a5] 45))
  have CB := Aside0.mk (deed_read ((w.alloc (.cells #[.int .i64 a0, .string nm, .string s, .slice A3 l3.length c3, .slice A4 l4.length c4, .int .i64 a5] 45)).alloc (.cells #[.int .i64 a0, .string nm, .string s, .slice A3 l3.length c3, .slice A4 l4.length c4, .int .i64 a5] 45)) ⟨a0, nm, s, l3, l4, a5⟩ _ rfl _ _ Z2 (k45.K_below ((below_alloc (below_alloc (Below.refl w.heap.size w) (.cells #[.int .i64 a0, .string nm, .string s, .slice A3 l3.length c3, .slice A4 l4.length c4, .int .i64 a5] 45)) (.cells #[.int .i64 a0, .string nm, .string s, .slice A3 l3.length c3, .slice A4 l4.length c4, .int .i64 a5] 45))) HK.out))
  clear Z2
  obtain ⟨N, hN⟩ : ∃ N, wrap64 ((IntKind.u64.wrap a0).tmod 8) = N := ⟨_, rfl⟩
  have HN := m8 a0
  rw [hN] at HN
  have HN := Aside0.mk HN
  have hN2 := Aside0.mk hN
  clear hN
  go_enter Tryd.func7, Tryd.ntmps7
  cases b with
  | true =>
    go_wp2_with (first | (go_at_call 17; refine (HG.out _ _ CB.out).mono ?_; rintro e w2 ⟨rfl, hd⟩; have B2 := Aside0.mk (BA.out.trans (hd.below.mono BA.out.size)); clear hd) | (go_at_call 8; refine (HS.out _).mono ?_; rintro e w3 ⟨rfl, hb3⟩; have B3 := Aside0.mk (B2.out.trans (hb3.mono B2.out.size)); clear hb3))
    refine bodyPost_ret (results_tmp rfl _ _ _) rfl ?_
    exact ⟨rfl, B3.out⟩
  | false =>
    have HT := Aside0.mk (hs rfl)
    go_wp2_with (first | (go_at_call 17; refine (HG.out _ _ CB.out).mono ?_; rintro e w2 ⟨rfl, hd⟩; have B2 := Aside0.mk (BA.out.trans (hd.below.mono BA.out.size)); have Z3 := Aside0.mk (blk_below Z1.out hd.below); have x0 : w2.cell? ⟨w.heap.size, 0, none⟩ = some (.int .i64 a0) := (blk_cell Z3.out 0).trans rfl; have f0 : w2.frozen? ⟨w.heap.size, 0, none⟩ = false := blk_frozen Z3.out 0; clear hd))
    have HZ := Aside0.mk Z3.out
    clear x0 f0
    have hN := hN2.out
    rw [hN]
    have e2 : (w2.setCell ⟨w.heap.size, 0, none⟩ (.int .i64 N)).heap.size = w2.heap.size := by simp [World.setCell]
    have bA := below_alloc (below_alloc ((B2.out.setCell (p := ⟨w.heap.size, 0, none⟩) (Nat.le_refl _) (.int .i64 N))) (.cells #[.slice none 0 0, .bool false] 56)) (.cells #[.pointer none, .pointer (some ⟨w2.heap.size, 0, none⟩)] 27)
    have sA := blk_alloc (blk_new (w2.setCell ⟨w.heap.size, 0, none⟩ (.int .i64 N)) (.cells #[.slice none 0 0, .bool false] 56)) (.cells #[.pointer none, .pointer (some ⟨w2.heap.size, 0, none⟩)] 27)
    have pA := blk_new ((w2.setCell ⟨w.heap.size, 0, none⟩ (.int .i64 N)).alloc (.cells #[.slice none 0 0, .bool false] 56)) (.cells #[.pointer none, .pointer (some ⟨w2.heap.size, 0, none⟩)] 27)
    have dA := blk_alloc (blk_alloc (blk_put Z3.out 0 (.int .i64 N) (cs' := (dc N nm s A3 l3.length c3 A4 l4.length c4 a5).toArray) rfl) (.cells #[.slice none 0 0, .bool false] 56)) (.cells #[.pointer none, .pointer (some ⟨w2.heap.size, 0, none⟩)] 27)
    rw [sz1] at pA
    rw [e2] at sA pA
    obtain ⟨W9, hW9⟩ : ∃ W9, ((w2.setCell ⟨w.heap.size, 0, none⟩ (.int .i64 N)).alloc (.cells #[.slice none 0 0, .bool false] 56)).alloc (.cells #[.pointer none, .pointer (some ⟨w2.heap.size, 0, none⟩)] 27) = W9 := ⟨_, rfl⟩
    rw [hW9] at bA sA pA dA ⊢
    obtain ⟨gp, hgp⟩ : ∃ gp, w2.heap.size + 1 = gp := ⟨_, rfl⟩
    obtain ⟨gs, hgs⟩ : ∃ gs, w2.heap.size = gs := ⟨_, rfl⟩
    rw [hgp] at pA ⊢
    rw [hgs] at sA pA ⊢
    have B9 := Aside0.mk bA
    have S9 := Aside0.mk sA
    have P9 := Aside0.mk pA
    have D9 := Aside0.mk dA
    clear bA sA pA dA hW9 hgp hgs e2 hN
    go_loopg [5] 2 (fun kq v5 w' => Aside0 (kq ≤ 2) ∧ v5 = .int .i64 ((2 - kq : Nat) : Int) ∧ Aside0 (Below W9.heap.size W9 w'))
    case atStart => exact ⟨⟨Nat.le_refl _⟩, rfl, ⟨Below.refl _ _⟩⟩
    case round =>
      obtain ⟨L5, rfl, R5⟩ := hrel
      cases gk with
      | zero =>
        go_wp2_with (first | (go_at_call 8; refine (HS.out _).mono ?_; rintro e w3 ⟨rfl, hb3⟩; have B3 := Aside0.mk (B9.out.trans ((R5.out.mono B9.out.size).trans (hb3.mono (Nat.le_trans B9.out.size R5.out.size)))); clear hb3))
        refine bodyPost_ret (results_tmp rfl _ _ _) rfl ?_
        exact ⟨rfl, B3.out⟩
      | succ j =>
        obtain ⟨i, hi⟩ : ∃ i, 2 - (j + 1) = i := ⟨_, rfl⟩
        rw [hi] at ⊢
        have hji : j + 1 + i = 2 := by have := L5.out; omega
        have HJI := Aside0.mk hji
        obtain ⟨p, hp, hno⟩ : ∃ p, (#[Value.pointer none, Value.pointer (some ⟨gs, 0, none⟩)] : Array Value)[i]? = some p ∧ NoStk p W9 := by
          rcases (show i = 0 ∨ i = 1 by omega) with rfl | rfl
          · exact ⟨_, rfl, .inl rfl⟩
          · exact ⟨_, rfl, .inr ⟨gs, rfl, S9.out⟩⟩
        have HP := Aside0.mk hp
        have HNO := Aside0.mk hno
        have c0 : ((i : Int) < 2) = True := eq_true (by omega)
        have hw1 : wrap64 ((i : Int) + 1) = (i : Int) + 1 := by unfold wrap64; omega
        have q0 : wr.cell? ⟨gp, i, none⟩ = some p := (blk_cell (blk_below P9.out R5.out) i).trans hp
        have q1 : ∀ o, (wr.alloc o).cell? ⟨gp, i, none⟩ = some p := fun o => (blk_cell (blk_alloc (blk_below P9.out R5.out) o) i).trans hp
        clear hp hno hji hi
        have d0 : wr.cell? ⟨w.heap.size, 0, none⟩ = some (.int .i64 N) := (blk_cell (blk_below D9.out R5.out) 0).trans rfl
        have e0 : ∀ o, (wr.alloc o).cell? ⟨w.heap.size, 0, none⟩ = some (.int .i64 N) := fun o => (blk_cell (blk_alloc (blk_below D9.out R5.out) o) 0).trans rfl
        have d1 : wr.cell? ⟨w.heap.size, 1, none⟩ = some (.string nm) := (blk_cell (blk_below D9.out R5.out) 1).trans rfl
        have e1 : ∀ o, (wr.alloc o).cell? ⟨w.heap.size, 1, none⟩ = some (.string nm) := fun o => (blk_cell (blk_alloc (blk_below D9.out R5.out) o) 1).trans rfl
        have d2 : wr.cell? ⟨w.heap.size, 2, none⟩ = some (.string s) := (blk_cell (blk_below D9.out R5.out) 2).trans rfl
        have e2 : ∀ o, (wr.alloc o).cell? ⟨w.heap.size, 2, none⟩ = some (.string s) := fun o => (blk_cell (blk_alloc (blk_below D9.out R5.out) o) 2).trans rfl
        have d3 : wr.cell? ⟨w.heap.size, 3, none⟩ = some (.slice A3 l3.length c3) := (blk_cell (blk_below D9.out R5.out) 3).trans rfl
        have e3 : ∀ o, (wr.alloc o).cell? ⟨w.heap.size, 3, none⟩ = some (.slice A3 l3.length c3) := fun o => (blk_cell (blk_alloc (blk_below D9.out R5.out) o) 3).trans rfl
        have d4 : wr.cell? ⟨w.heap.size, 4, none⟩ = some (.slice A4 l4.length c4) := (blk_cell (blk_below D9.out R5.out) 4).trans rfl
        have e4 : ∀ o, (wr.alloc o).cell? ⟨w.heap.size, 4, none⟩ = some (.slice A4 l4.length c4) := fun o => (blk_cell (blk_alloc (blk_below D9.out R5.out) o) 4).trans rfl
        have d5 : wr.cell? ⟨w.heap.size, 5, none⟩ = some (.int .i64 a5) := (blk_cell (blk_below D9.out R5.out) 5).trans rfl
        have e5 : ∀ o, (wr.alloc o).cell? ⟨w.heap.size, 5, none⟩ = some (.int .i64 a5) := fun o => (blk_cell (blk_alloc (blk_below D9.out R5.out) o) 5).trans rfl
        go_wp2
        have hbx : bx = [.string ⟨#[]⟩, .bool false, .int .i64 0, .int .i64 0, .slice none 0 0] := rfl
        have HDO := Aside0.mk (fun W h => do_no N HN.out.1 HN.out.2 p nm s A3 l3.length c3 A4 l4.length c4 a5 HT.out W h)
        have RA := Aside0.mk (show Below W9.heap.size W9 (wr.alloc (.cells #[.string ⟨#[]⟩, .bool false, .int .i64 0, .int .i64 0, .slice none 0 0] 34)).drew from below_drew1 (R5.out.trans ((below_alloc (Below.refl wr.heap.size wr) (.cells #[.string ⟨#[]⟩, .bool false, .int .i64 0, .int .i64 0, .slice none 0 0] 34)).mono R5.out.size)))
        have ZA := Aside0.mk (show (wr.alloc (.cells #[.string ⟨#[]⟩, .bool false, .int .i64 0, .int .i64 0, .slice none 0 0] 34)).drew.heap[wr.heap.size]? = some (.cells #[.string ⟨#[]⟩, .bool false, .int .i64 0, .int .i64 0, .slice none 0 0] 34 (0, 0)) from blk_drew (blk_new wr (.cells #[.string ⟨#[]⟩, .bool false, .int .i64 0, .int .i64 0, .slice none 0 0] 34)))
        go_region_law (first | (go_simp; go_at_call 19; refine (HDO.out _ (HNO.out.below (below_drew1 R5.out))).mono ?_; rintro e w5 ⟨rfl, hb5⟩; have B6 := Aside0.mk ((below_drew1 R5.out).trans (hb5.mono (show W9.heap.size ≤ wr.drew.heap.size from R5.out.size))); clear hb5) | (go_simp; go_at_call 19; refine (HDO.out _ (HNO.out.below RA.out)).mono ?_; rintro e w5 ⟨rfl, hb5⟩; have B6 := Aside0.mk (RA.out.trans (hb5.mono RA.out.size)); have Z5 := Aside0.mk (blk_below ZA.out hb5); have p0 : w5.cell? ⟨wr.heap.size, 0, none⟩ = some (.string ⟨#[]⟩) := (blk_cell Z5.out 0).trans rfl; have y0 : w5.frozen? ⟨wr.heap.size, 0, none⟩ = false := blk_frozen Z5.out 0; have p1 : w5.cell? ⟨wr.heap.size, 1, none⟩ = some (.bool false) := (blk_cell Z5.out 1).trans rfl; have y1 : w5.frozen? ⟨wr.heap.size, 1, none⟩ = false := blk_frozen Z5.out 1; have p2 : w5.cell? ⟨wr.heap.size, 2, none⟩ = some (.int .i64 0) := (blk_cell Z5.out 2).trans rfl; have y2 : w5.frozen? ⟨wr.heap.size, 2, none⟩ = false := blk_frozen Z5.out 2; have p3 : w5.cell? ⟨wr.heap.size, 3, none⟩ = some (.int .i64 0) := (blk_cell Z5.out 3).trans rfl; have y3 : w5.frozen? ⟨wr.heap.size, 3, none⟩ = false := blk_frozen Z5.out 3; have p4 : w5.cell? ⟨wr.heap.size, 4, none⟩ = some (.slice none 0 0) := (blk_cell Z5.out 4).trans rfl; have y4 : w5.frozen? ⟨wr.heap.size, 4, none⟩ = false := blk_frozen Z5.out 4; clear hb5))
        all_goals first
          | (have Z6 := Aside0.mk Z5.out
             have BE := Aside0.mk (show Below W9.heap.size W9 (((((w5.setCell ⟨wr.heap.size, 0, none⟩ (.string ⟨#[]⟩)).setCell ⟨wr.heap.size, 1, none⟩ (.bool false)).setCell ⟨wr.heap.size, 2, none⟩ (.int .i64 0)).setCell ⟨wr.heap.size, 3, none⟩ (.int .i64 0)).setCell ⟨wr.heap.size, 4, none⟩ (.slice none 0 0)) from fivv_below w5 wr.heap.size ⟨#[]⟩ false 0 0 none 0 0 B6.out R5.out.size)
             go_wp2_with (first | (go_at_call 24; refine (line_bx _).mono ?_; rintro e w6 ⟨rfl, hb6⟩; have B7 := Aside0.mk (BE.out.trans (hb6.mono BE.out.size)); have q6 : w6.cell? ⟨gp, i, none⟩ = some p := (blk_cell (blk_below P9.out B7.out) i).trans HP.out; clear hb6) | (go_at_call 14; refine (depth_no p _ (HNO.out.below B7.out)).mono ?_; rintro e w7 ⟨rfl, rfl⟩) | (go_at_call 26; refine (line_no p _ (HNO.out.below B7.out)).mono ?_; rintro e w8 ⟨rfl, hb8⟩; have B8 := Aside0.mk (B7.out.trans (hb8.mono B7.out.size)); have q8 : w8.cell? ⟨gp, i, none⟩ = some p := (blk_cell (blk_below P9.out B8.out) i).trans HP.out; clear hb8) | (go_at_call 27; refine (name_no p _ (HNO.out.below B8.out)).mono ?_; rintro e w10 ⟨rfl, hb10⟩; have B10 := Aside0.mk (B8.out.trans (hb10.mono B8.out.size)); have q10 : w10.cell? ⟨gp, i, none⟩ = some p := (blk_cell (blk_below P9.out B10.out) i).trans HP.out; clear hb10) | (go_at_call 28; refine (args_no p _ (HNO.out.below B10.out)).mono ?_; rintro e w11 ⟨rfl, hb11⟩; have B11 := Aside0.mk (B10.out.trans (hb11.mono B10.out.size)); have q11 : w11.cell? ⟨gp, i, none⟩ = some p := (blk_cell (blk_below P9.out B11.out) i).trans HP.out; clear hb11) | (go_at_call 22; refine (copy_no p _ (HNO.out.below B11.out)).mono ?_; rintro e w12 ⟨rfl, rfl⟩))
             go_roundg j
             case measure => omega
             case rel => exact ⟨⟨by have := L5.out; omega⟩, by have := HJI.out; rw [show 2 - j = i + 1 by omega]; simp [hw1], B11⟩)
          | (have BE := Aside0.mk (B6.out.trans ((below_alloc (Below.refl w5.heap.size w5) (.cells #[.string ⟨#[]⟩, .bool false, .int .i64 0, .int .i64 0, .slice none 0 0] 34)).mono B6.out.size))
             go_wp2_with (first | (go_at_call 24; refine (line_bx _).mono ?_; rintro e w6 ⟨rfl, hb6⟩; have B7 := Aside0.mk (BE.out.trans (hb6.mono BE.out.size)); have q6 : w6.cell? ⟨gp, i, none⟩ = some p := (blk_cell (blk_below P9.out B7.out) i).trans HP.out; clear hb6) | (go_at_call 14; refine (depth_no p _ (HNO.out.below B7.out)).mono ?_; rintro e w7 ⟨rfl, rfl⟩) | (go_at_call 26; refine (line_no p _ (HNO.out.below B7.out)).mono ?_; rintro e w8 ⟨rfl, hb8⟩; have B8 := Aside0.mk (B7.out.trans (hb8.mono B7.out.size)); have q8 : w8.cell? ⟨gp, i, none⟩ = some p := (blk_cell (blk_below P9.out B8.out) i).trans HP.out; clear hb8) | (go_at_call 27; refine (name_no p _ (HNO.out.below B8.out)).mono ?_; rintro e w10 ⟨rfl, hb10⟩; have B10 := Aside0.mk (B8.out.trans (hb10.mono B8.out.size)); have q10 : w10.cell? ⟨gp, i, none⟩ = some p := (blk_cell (blk_below P9.out B10.out) i).trans HP.out; clear hb10) | (go_at_call 28; refine (args_no p _ (HNO.out.below B10.out)).mono ?_; rintro e w11 ⟨rfl, hb11⟩; have B11 := Aside0.mk (B10.out.trans (hb11.mono B10.out.size)); have q11 : w11.cell? ⟨gp, i, none⟩ = some p := (blk_cell (blk_below P9.out B11.out) i).trans HP.out; clear hb11) | (go_at_call 22; refine (copy_no p _ (HNO.out.below B11.out)).mono ?_; rintro e w12 ⟨rfl, rfl⟩))
             go_roundg j
             case measure => omega
             case rel => exact ⟨⟨by have := L5.out; omega⟩, by have := HJI.out; rw [show 2 - j = i + 1 by omega]; simp [hw1], B11⟩)
end Go.Proofs.YtagadehcbpoihaaDoor.Nil5

namespace Go.Proofs.YtagadehcbpoihaaDoor.QNo
set_option linter.unusedVariables false
open Go.RowKit Go.Proofs.YtagadehcbpoihaaDoorW.PrintWords Go.Proofs.YtagadehcbpoihaaDoorW.PrintLast Go.Proofs.YtagadehcbpoihaaDoorW.PrintMore Go.Proofs.YtagadehcbpoihaaDoor.Lines5
theorem spl_piece (l : List UInt8) : (QSl.piecesL l).length ≤ l.length + 1 := by
  unfold QSl.piecesL
  split
  · simp
  · rw [List.length_map, spl_len]
    have h1 := List.count_le_length (a := (10 : UInt8)) (l := trim l)
    have h2 : (trim l).length ≤ l.length := by
      unfold trim
      split
      · rw [List.length_dropLast]; omega
      · exact Nat.le_refl _
    omega
theorem text_l (xs : List ByteArray) (hx : xs.length ≤ 8001) : ∀ (n i : Nat) (acc : List QSl.S34), i + n = xs.length → acc.length = i → ∃ r, QSl.source_text.l0 (n + 1) acc xs (xs.length : Int) (i : Int) = some r
  | 0, i, acc, hn, ha => by
    rw [QSl.source_text.l0, if_neg (by omega)]
    exact ⟨_, rfl⟩
  | n + 1, i, acc, hn, ha => by
    rw [QSl.source_text.l0, if_pos (by omega), if_pos (by omega), if_pos (by omega)]
    by_cases h1 : ((rdOf ByteArray.empty xs (i : Int)).size : Int) > 2000
    · rw [if_pos h1]; exact ⟨_, rfl⟩
    · rw [if_neg h1]
      by_cases h2 : (acc.length : Int) = 20000
      · rw [if_pos h2]; exact ⟨_, rfl⟩
      · rw [if_neg h2, if_pos (by omega)]
        have e : wrap64 ((i : Int) + 1) = ((i + 1 : Nat) : Int) := by unfold wrap64; omega
        rw [e]
        exact text_l xs hx n (i + 1) _ (by omega) (by rw [List.length_append]; simp [ha])
theorem text_ok (s : ByteArray) (h : s.size < 8000) : Nil5.TextOk s := by
  have hp := spl_piece s.data.toList
  have hs : s.data.toList.length = s.size := Array.length_toList
  obtain ⟨r, hr⟩ := text_l (QSl.piecesL s.data.toList) (by omega) _ 0 [] (Nat.zero_add _) rfl
  refine ⟨(QSl.piecesL s.data.toList).length + 1, r.1, r.2, ?_⟩
  rw [QSl.source_text.f, QSl.source_Lines.f, if_pos (by omega)]
  exact hr
def frisketlaw05_SourceNothing.f (k : Nat) (a0 : Int) (nm s : ByteArray) (l3 : List S34) (l4 : List ByteArray) (a5 : Int) : Option Bool :=
  (frisketlaw05_big.f k [⟨a0, nm, s, l3, l4, a5⟩]).bind fun b => if b = true then some true else if s.size < 8000 then some true else none
theorem frisketlaw05_SourceNothing.calls (k : Nat) (a0 : Int) (nm s : ByteArray) (A3 : Option Addr) (c3 : Nat) (l3 : List S34) (A4 : Option Addr) (c4 : Nat) (l4 : List ByteArray) (a5 : Int) (r : Bool) (w : World) (hr3 : Kd.C k34 w A3 l3.length l3) (hc3 : l3.length ≤ c3) (hr4 : Kd.C Kd.string w A4 l4.length l4) (hc4 : l4.length ≤ c4) (h : frisketlaw05_SourceNothing.f k a0 nm s l3 l4 a5 = some r) :
    Calls Tryd.prog 7 #[.agg #[.int .i64 a0, .string nm, .string s, .slice A3 l3.length c3, .slice A4 l4.length c4, .int .i64 a5]] w fun e w' => e = .returned (.bool r) ∧ Below w.heap.size w w' := by
  obtain ⟨b, hb, h⟩ := Option.bind_eq_some_iff.1 h
  have hr : r = true := by
    cases b with
    | true => exact (Option.some.inj h).symm
    | false =>
      simp only [Bool.false_eq_true, if_false] at h
      split at h
      · exact (Option.some.inj h).symm
      · cases h
  subst hr
  refine Nil5.nothing_calls a0 nm s A3 c3 l3 A4 c4 l4 a5 k b hb (fun e => ?_) w hr3 hc3 hr4 hc4
  subst e
  simp only [Bool.false_eq_true, if_false] at h
  split at h
  · rename_i h5; exact text_ok s h5
  · cases h
/-- The deed's lines are summed up. -/
theorem big_l (d : S45) (hl : ∀ x ∈ d.f3, x.f0.size ≤ 140737488351232 ∧ x.f4.length ≤ 140737488351232) : ∀ (n i x3 : Nat), i + n = d.f3.length → x3 ≤ 1000000000000000 → d.f2.size ≤ x3 → d.f3.length ≤ 140737488351232 → ∃ b, frisketlaw05_big.l1 (n + 4) [d] (x3 : Int) 0 (i : Int) = some b ∧ (b = false → d.f2.size < 8000)
  | n, i, x3, hn, hx, hs, hd => by
    have hend : ∀ m, ∃ b, frisketlaw05_big.l0 (m + 2) [d] (x3 : Int) (wrap64 (0 + 1)) = some b ∧ (b = false → d.f2.size < 8000) := by
      intro m
      rw [show wrap64 (0 + 1) = 1 by unfold wrap64; omega, frisketlaw05_big.l0, if_neg (by simp), frisketlaw05_big.j1, if_neg (by simp)]
      by_cases h : (x3 : Int) ≥ 8000
      · rw [if_pos h]; exact ⟨true, rfl, fun h => by cases h⟩
      · rw [if_neg h]; exact ⟨_, rfl, fun _ => by omega⟩
    cases n with
    | zero =>
      rw [frisketlaw05_big.l1, if_pos (by omega), if_pos (by simp), if_neg (by simp [rd_T45]; omega)]
      exact hend 1
    | succ n =>
      rw [frisketlaw05_big.l1, if_pos (by omega), if_pos (by simp), if_pos (by simp [rd_T45]; omega)]
      by_cases h8 : (x3 : Int) < 8000
      · rw [if_pos h8, if_pos (by omega)]
        have hi : i < d.f3.length := by omega
        have e1 : (rd_T34 (rd_T45 [d] 0).f3 (i : Int)) = d.f3[i] := by
          simp [rd_T34, rd_T45, List.getD, hi]
        have hb := hl _ (List.getElem_mem hi)
        rw [e1]
        generalize d.f3[i] = x at hb
        have e2 : wrap64 ((x3 : Int) + wrap64 ((x.f0.size : Int) + (x.f4.length : Int))) = ((x3 + x.f0.size + x.f4.length : Nat) : Int) := by
          have : wrap64 ((x.f0.size : Int) + (x.f4.length : Int)) = ((x.f0.size + x.f4.length : Nat) : Int) := by unfold wrap64; omega
          rw [this]; unfold wrap64; omega
        have e3 : wrap64 ((i : Int) + 1) = ((i + 1 : Nat) : Int) := by unfold wrap64; omega
        rw [e2, e3]
        exact big_l d hl n (i + 1) _ (by omega) (by omega) (by omega) hd
      · rw [if_neg h8]
        exact hend (n + 2)
theorem big_ok (d : S45) (h2 : d.f2.size ≤ 140737488351232) (h3 : d.f3.length ≤ 140737488351232) (h4 : d.f4.length ≤ 140737488351232) (hl : ∀ x ∈ d.f3, x.f0.size ≤ 140737488351232 ∧ x.f4.length ≤ 140737488351232) : ∃ k b, frisketlaw05_big.f k [d] = some b ∧ (b = false → d.f2.size < 8000) := by
  have e2 : wrap64 (0 + (wrap64 ((wrap64 ((d.f2.size : Int) + (d.f3.length : Int))) + (d.f4.length : Int)))) = ((d.f2.size + d.f3.length + d.f4.length : Nat) : Int) := by
    have : wrap64 ((d.f2.size : Int) + (d.f3.length : Int)) = ((d.f2.size + d.f3.length : Nat) : Int) := by unfold wrap64; omega
    rw [this]
    have : wrap64 (((d.f2.size + d.f3.length : Nat) : Int) + (d.f4.length : Int)) = ((d.f2.size + d.f3.length + d.f4.length : Nat) : Int) := by unfold wrap64; omega
    rw [this]; unfold wrap64; omega
  obtain ⟨b, hb, hs⟩ := big_l d hl d.f3.length 0 (d.f2.size + d.f3.length + d.f4.length) (by omega) (by omega) (by omega) h3
  refine ⟨d.f3.length + 6, b, ?_, hs⟩
  rw [frisketlaw05_big.f, frisketlaw05_big.l0, if_pos (by simp), frisketlaw05_big.j1, if_pos (by simp), if_pos (by omega), if_pos (by simp)]
  have e1 : rd_T45 [d] 0 = d := rfl
  rw [e1, e2]
  exact hb
theorem nothing_pure (a0 : Int) (nm s : ByteArray) (l3 : List S34) (l4 : List ByteArray) (a5 : Int) (h2 : s.size ≤ 140737488351232) (h3 : l3.length ≤ 140737488351232) (h4 : l4.length ≤ 140737488351232) (hl : ∀ x ∈ l3, x.f0.size ≤ 140737488351232 ∧ x.f4.length ≤ 140737488351232) : ∃ k, frisketlaw05_SourceNothing.f k a0 nm s l3 l4 a5 = some true := by
  obtain ⟨k, b, hb, hs⟩ := big_ok ⟨a0, nm, s, l3, l4, a5⟩ h2 h3 h4 hl
  refine ⟨k, ?_⟩
  rw [frisketlaw05_SourceNothing.f, hb]
  cases b with
  | true => rfl
  | false =>
    show (if (false : Bool) = true then some true else if s.size < 8000 then some true else none) = some true
    rw [if_neg (by simp), if_pos (hs rfl)]
end Go.Proofs.YtagadehcbpoihaaDoor.QNo
