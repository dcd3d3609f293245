/- Expand in copy mode, of a text whose backslashes are all doubled; Protect; the law's walk. -/
import Derived.Test.YtpflnhbhgcediaaDoorFBackB
import Derived.Test.YtpflnhbhgcediaaDoorFSaneCEx
import Derived.Test.YtpflnhbhgcediaaDoorQBkx1
namespace Go.Proofs.YtpflnhbhgcediaaDoor.Back4
open Go.RowKit Go.Proofs.YtpflnhbhgcediaaDoorW.PrintWords Go.Proofs.YtpflnhbhgcediaaDoorW.PrintLast Go.Proofs.YtpflnhbhgcediaaDoorW.PrintMore Go.Proofs.YtpflnhbhgcediaaDoorN Go.Proofs.YtpflnhbhgcediaaDoor.FnVal Go.Proofs.YtpflnhbhgcediaaDoor.Str Go.Proofs.YtpflnhbhgcediaaDoor.Sane4
set_option linter.unusedVariables false
set_option linter.unusedSimpArgs false
theorem fn_any (f : Fn) (a c : Array Value) (w : World) : (binOp .eql 44 (.func f a c) .nilFunc).run Tryd.prog w = .ok (.bool false) w := by
  have h : ∀ d : Nat, (Op.equalIn (d + 1) 44 (.func f a c) .nilFunc).run Tryd.prog w = .ok false w := fun d => by
    simp [Op.equalIn, run_underlying Tryd.underlying44]
  simp only [binOp]
  simp [Op.equal, Op.maxDepth, h 9999]
set_option maxHeartbeats 4000000 in
set_option maxRecDepth 100000 in
theorem Expand_back (l0 : List UInt8) (hl0 : l0.length ≤ 2000) (hf : fitsB (mkB (pr l0)) = true) (p : Value) (w : World) :
    Calls Tryd.prog 9 #[.string (mkB (pr l0)), .bool true, .func (.func 10) #[p] #[]] w fun e w' => e = .returned (.tuple #[.string (mkB l0), .int .i64 0]) ∧ Below w.heap.size w w' := by
  have hfn := fn_any (.func 10) #[p] #[]
  have hmf : ∀ (fn : Fn) (first cap : Array Value) (w : World), (Instr.makeFunc fn first cap).run Tryd.prog w = .ok (.func fn first cap) w := fun _ _ _ _ => rfl
  have HF := Aside0.mk hf
  have HL := Aside0.mk hl0
  clear hf hl0
  go_enter_defers Tryd.func9, Tryd.ntmps9
  go_wp2_with (first | (go_at_call 17; refine (fits_calls _ _).mono ?_; rw [HF.out]; rintro e w2 ⟨rfl, rfl⟩))
  go_wp2_with (first | (go_at_call 20; refine (expand_back l0 HL.out (.func (.func 10) #[p] #[]) _ (w.heap.size + 1 + 1) (three_new _ _ _ _)).mono ?_; rintro e w4 ⟨rfl, hb4⟩; have h4 := three (hb4.mono (by show w.heap.size + 1 + 1 ≤ (((w.heap.push _).push _).push _).size; rw [Array.size_push, Array.size_push, Array.size_push]; omega)); have c0 := Lib.cell_of_heap h4.1 0; have c1 := Lib.cell_of_heap h4.2.1 0; have z0 := Lib.frozen_of_heap h4.1 0; have z1 := Lib.frozen_of_heap h4.2.1 0; have HB4 := Aside0.mk h4; clear hb4 h4))
  refine leaves_cons (f := 19) (args := #[.pointer (some ⟨w.heap.size, 0, none⟩), .pointer (some ⟨w.heap.size + 1, 0, none⟩)]) (by simp) (by simp [go_sem]) ?_
  refine (catch_idle _ _ _).mono ?_
  rintro e u' w'' ⟨rfl, rfl, rfl⟩
  have d0 : (w4.setCell ⟨w.heap.size, 0, none⟩ (.string (mkB l0))).cell? ⟨w.heap.size, 0, none⟩ = some (.string (mkB l0)) := World.cell?_setCell_same' _ _ _ (by rw [c0]; rfl)
  have h1 : (w4.setCell ⟨w.heap.size, 0, none⟩ (.string (mkB l0))).heap[w.heap.size + 1]? = _ := (Below.heap_setCell _ _ _ _ (by first | (show ¬ w.heap.size = w.heap.size + 1; omega) | (show ¬ w.heap.size + 1 = w.heap.size; omega))).trans HB4.out.2.1
  have d1 : ((w4.setCell ⟨w.heap.size, 0, none⟩ (.string (mkB l0))).setCell ⟨w.heap.size + 1, 0, none⟩ (.int .i64 0)).cell? ⟨w.heap.size + 1, 0, none⟩ = some (.int .i64 0) := World.cell?_setCell_same' _ _ _ (by rw [Lib.cell_of_heap h1 0]; rfl)
  simp [Leaves, settle, results, Tryd.results9, go_sem, d0, d1]
  exact below_set (below_set HB4.out.2.2 (Nat.le_refl _)) (Nat.le_succ _)
end Go.Proofs.YtpflnhbhgcediaaDoor.Back4
