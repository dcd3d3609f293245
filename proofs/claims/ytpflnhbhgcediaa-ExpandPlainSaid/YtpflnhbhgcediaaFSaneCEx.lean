/- The fixed example of the laws: Expand of "a\nxb", whoever is asked answering "3", is "a3b". -/
import Derived.Test.YtpflnhbhgcediaaFSaneEx
import Derived.Test.YtpflnhbhgcediaaFnVal
import Derived.Test.YtpflnhbhgcediaaNum
import Derived.Defers
import Derived.Recover
namespace Go.Proofs.Ytpflnhbhgcediaa.Sane4
open Go.RowKit Go.Proofs.YtpflnhbhgcediaaW.PrintWords Go.Proofs.YtpflnhbhgcediaaW.PrintLast Go.Proofs.YtpflnhbhgcediaaW.PrintMore Go.Proofs.YtpflnhbhgcediaaN Go.Proofs.Ytpflnhbhgcediaa.FnVal Go.Proofs.Ytpflnhbhgcediaa.QEx
set_option linter.unusedVariables false
set_option linter.unusedSimpArgs false
/-- Contains at one byte. -/
theorem co_calls (s : ByteArray) (r : Bool) (h : decide (0 ≤ Lib.indexByte s.data.toList 10) = r) (w : World) : Calls Try.prog 25 #[.string s, .string ⟨#[10]⟩] w fun e w' => e = .returned (.bool r) ∧ w' = w := by
  subst h
  exact Any.strings_Contains_one Lay.l144 s 10 w
def fitsB (s : ByteArray) : Bool := decide ((s.size : Int) ≤ 2000) && !decide (0 ≤ Lib.indexByte s.data.toList 10)
set_option maxHeartbeats 2000000 in
set_option maxRecDepth 100000 in
theorem fits_calls (s : ByteArray) (w : World) : Calls Try.prog 18 #[.string s] w fun e w' => e = .returned (.bool (fitsB s)) ∧ w' = w := by
  obtain ⟨r, hr⟩ : ∃ r, decide (0 ≤ Lib.indexByte s.data.toList 10) = r := ⟨_, rfl⟩
  by_cases c : (s.size : Int) ≤ 2000
  · have c1 : decide ((s.size : Int) ≤ 2000) = true := decide_eq_true c
    have c2 : ((s.size : Int) ≤ 2000) = True := eq_true c
    have HR := Aside0.mk hr
    have hf : fitsB s = !r := by unfold fitsB; rw [c1, hr]; rfl
    clear c hr
    rw [hf]
    go_enter Try.func18, Try.ntmps18
    go_wp2_with (first | (go_at_call 25; refine (co_calls s r HR.out _).mono ?_; rintro e w2 ⟨rfl, rfl⟩))
    refine bodyPost_ret (results_tmp rfl _ _ _) rfl ?_
    exact ⟨rfl, rfl⟩
  · have c1 : decide ((s.size : Int) ≤ 2000) = false := decide_eq_false c
    have c2 : ((s.size : Int) ≤ 2000) = False := eq_false c
    have hf : fitsB s = false := by unfold fitsB; rw [c1]; rfl
    clear c hr
    rw [hf]
    go_enter Try.func18, Try.ntmps18
    go_wp2_with (fail)
    refine bodyPost_ret (results_tmp rfl _ _ _) rfl ?_
    exact ⟨rfl, rfl⟩
theorem catch_idle (p q : Addr) (w : World) :
    CallsD Try.prog 19 #[.pointer (some p), .pointer (some q)] .returning w fun e u' w' => e = .returned (.tuple #[]) ∧ u' = .returning ∧ w' = w := by
  refine callsD_of_wpS Try.func19 rfl fun c₀ cs hu => ?_
  apply wpS_seq
  apply wpS_region
  simp [wpOpsS, go_sem, recoverD, hu, Try.ntmps19, Exit.thenS]
  apply wpS_seq
  apply wpS_region
  simp [wpOpsS, go_sem, recoverD, hu, Try.ntmps19, Exit.thenS]
  refine wpS_cond (t := false) (by simp [Act.eval, Array.replicate]) ?_
  simp only [Bool.false_eq_true, if_false]
  refine wpS_of_wp (wp_skip ?_)
  cases c₀
  simp_all [bodyPostS, results, Try.results19]
theorem fn_some (w : World) : (binOp .eql 45 (.func (.func 15) #[] #[]) .nilFunc).run Try.prog w = .ok (.bool false) w := by
  have h : ∀ d : Nat, (Op.equalIn (d + 1) 45 (.func (.func 15) #[] #[]) .nilFunc).run Try.prog w = .ok false w := fun d => by
    simp [Op.equalIn, run_underlying Try.underlying45]
  simp only [binOp]
  simp [Op.equal, Op.maxDepth, h 9999]
theorem fn_none (w : World) : (binOp .eql 45 .nilFunc .nilFunc).run Try.prog w = .ok (.bool true) w := by
  have h : ∀ d : Nat, (Op.equalIn (d + 1) 45 .nilFunc .nilFunc).run Try.prog w = .ok true w := fun d => by
    simp [Op.equalIn, run_underlying Try.underlying45]
  simp only [binOp]
  simp [Op.equal, Op.maxDepth, h 9999]
theorem three_new (w : World) (a b c : Obj) : (((w.alloc a).alloc b).alloc c).heap[w.heap.size + 1 + 1]? = some c := by
  have e : w.heap.size + 1 + 1 = ((w.alloc a).alloc b).heap.size := by
    show _ = ((w.heap.push a).push b).size
    rw [Array.size_push, Array.size_push]
  rw [e]
  exact heap_alloc_new _ _
theorem three {w w4 : World} {a b c : Obj} (hb : Below (w.heap.size + 1 + 1) (((w.alloc a).alloc b).alloc c) w4) : w4.heap[w.heap.size]? = some a ∧ w4.heap[w.heap.size + 1]? = some b ∧ Below w.heap.size w w4 := by
  have e1 : (w.alloc a).heap.size = w.heap.size + 1 := by
    show (w.heap.push a).size = _
    rw [Array.size_push]
  have e2 : ((w.alloc a).alloc b).heap.size = w.heap.size + 1 + 1 := by
    show ((w.heap.push a).push b).size = _
    rw [Array.size_push, Array.size_push]
  refine ⟨(hb.block _ (by omega)).trans ((Lib.alloc_old _ _ _ (by omega)).trans ((Lib.alloc_old _ _ _ (by omega)).trans (heap_alloc_new _ _))), (hb.block _ (by omega)).trans ((Lib.alloc_old _ _ _ (by omega)).trans ?_), (below_alloc (below_alloc (below_alloc (Below.refl _ _) a) b) c).trans ⟨hb.os, hb.tape, hb.output, hb.size, fun k hk => hb.block k (by omega)⟩⟩
  rw [← e1]
  exact heap_alloc_new _ _
set_option maxHeartbeats 4000000 in
set_option maxRecDepth 100000 in
theorem Expand_calls (w : World) : Calls Try.prog 11 #[.string ⟨#[97, 92, 110, 120, 98]⟩, .bool false, .func (.func 15) #[] #[]] w fun e w' => e = .returned (.tuple #[.string ⟨#[97, 51, 98]⟩, .int .i64 0]) ∧ Below w.heap.size w w' := by
  have hfn := fn_some
  have hmf : ∀ (fn : Fn) (first cap : Array Value) (w : World), (Instr.makeFunc fn first cap).run Try.prog w = .ok (.func fn first cap) w := fun _ _ _ _ => rfl
  go_enter_defers Try.func11, Try.ntmps11
  go_wp2_with (first | (go_at_call 18; refine (fits_calls _ _).mono ?_; rw [show fitsB ⟨#[97, 92, 110, 120, 98]⟩ = true by decide]; rintro e w2 ⟨rfl, rfl⟩))
  go_wp2_with (first | (go_at_call 20; refine (expand_calls _ (w.heap.size + 1 + 1) (three_new _ _ _ _)).mono ?_; rintro e w4 ⟨rfl, hb4⟩; have h4 := three hb4; have c0 := Lib.cell_of_heap h4.1 0; have c1 := Lib.cell_of_heap h4.2.1 0; have z0 := Lib.frozen_of_heap h4.1 0; have z1 := Lib.frozen_of_heap h4.2.1 0; have HB4 := Aside0.mk h4; clear hb4 h4))
  refine leaves_cons (f := 19) (args := #[.pointer (some ⟨w.heap.size, 0, none⟩), .pointer (some ⟨w.heap.size + 1, 0, none⟩)]) (by simp) (by simp [go_sem]) ?_
  refine (catch_idle _ _ _).mono ?_
  rintro e u' w'' ⟨rfl, rfl, rfl⟩
  have d0 : (w4.setCell ⟨w.heap.size, 0, none⟩ (.string ⟨#[97, 51, 98]⟩)).cell? ⟨w.heap.size, 0, none⟩ = some (.string ⟨#[97, 51, 98]⟩) := World.cell?_setCell_same' _ _ _ (by rw [c0]; rfl)
  have h1 : (w4.setCell ⟨w.heap.size, 0, none⟩ (.string ⟨#[97, 51, 98]⟩)).heap[w.heap.size + 1]? = _ := (Below.heap_setCell _ _ _ _ (by first | (show ¬ w.heap.size = w.heap.size + 1; omega) | (show ¬ w.heap.size + 1 = w.heap.size; omega))).trans HB4.out.2.1
  have d1 : ((w4.setCell ⟨w.heap.size, 0, none⟩ (.string ⟨#[97, 51, 98]⟩)).setCell ⟨w.heap.size + 1, 0, none⟩ (.int .i64 0)).cell? ⟨w.heap.size + 1, 0, none⟩ = some (.int .i64 0) := World.cell?_setCell_same' _ _ _ (by rw [Lib.cell_of_heap h1 0]; rfl)
  simp [Leaves, settle, results, Try.results11, go_sem, d0, d1]
  exact below_set (below_set HB4.out.2.2 (Nat.le_refl _)) (Nat.le_succ _)
set_option maxHeartbeats 2000000 in
set_option maxRecDepth 100000 in
theorem sane_calls (w : World) : Calls Try.prog 8 #[] w fun e w' => e = .returned (.bool true) ∧ Below w.heap.size w w' := by
  go_enter Try.func8, Try.ntmps8
  go_wp2_with (first | (go_at_call 11; refine (Expand_calls _).mono ?_; rintro e w2 ⟨rfl, hb⟩; have HB := Aside0.mk hb; clear hb))
  refine bodyPost_ret (results_tmp rfl _ _ _) rfl ?_
  exact ⟨rfl, HB.out⟩
set_option maxHeartbeats 4000000 in
set_option maxRecDepth 100000 in
theorem Expand_nil (s : ByteArray) (cp : Bool) (w : World) : Calls Try.prog 11 #[.string s, .bool cp, .nilFunc] w fun e w' => e = .returned (.tuple #[.string ⟨#[]⟩, .int .i64 1]) ∧ Below w.heap.size w w' := by
  have hfn := fn_none
  have hmf : ∀ (fn : Fn) (first cap : Array Value) (w : World), (Instr.makeFunc fn first cap).run Try.prog w = .ok (.func fn first cap) w := fun _ _ _ _ => rfl
  obtain ⟨r, hr⟩ : ∃ r, fitsB s = r := ⟨_, rfl⟩
  have HR := Aside0.mk hr
  clear hr
  cases r
  · go_enter_defers Try.func11, Try.ntmps11
    go_wp2_with (first | (go_at_call 18; refine (fits_calls _ _).mono ?_; rw [HR.out]; rintro e w2 ⟨rfl, rfl⟩))
    simp [bodyPostD, Leaves, settle, results, Try.results11, go_sem]
    exact below_alloc (below_alloc (Below.refl _ _) _) _
  · go_enter_defers Try.func11, Try.ntmps11
    go_wp2_with (first | (go_at_call 18; refine (fits_calls _ _).mono ?_; rw [HR.out]; rintro e w2 ⟨rfl, rfl⟩))
    simp [bodyPostD, Leaves, settle, results, Try.results11, go_sem]
    exact below_alloc (below_alloc (Below.refl _ _) _) _
set_option maxHeartbeats 4000000 in
set_option maxRecDepth 100000 in
theorem nil_calls (s : ByteArray) (cp : Bool) (w : World) : Calls Try.prog 5 #[.string s, .bool cp] w fun e w' => e = .returned (.bool true) ∧ Below w.heap.size w w' := by
  go_enter Try.func5, Try.ntmps5
  go_wp2_with (first | (go_at_call 11; refine (Expand_nil _ _ _).mono ?_; rintro e w2 ⟨rfl, hb⟩; have HB := Aside0.mk hb; clear hb) | (go_at_call 8; refine (sane_calls _).mono ?_; rintro e w3 ⟨rfl, hb3⟩; have HB3 := Aside0.mk hb3; clear hb3))
  refine bodyPost_ret (results_tmp rfl _ _ _) rfl ?_
  exact ⟨rfl, below_then HB.out HB.out.size HB3.out⟩
end Go.Proofs.Ytpflnhbhgcediaa.Sane4
