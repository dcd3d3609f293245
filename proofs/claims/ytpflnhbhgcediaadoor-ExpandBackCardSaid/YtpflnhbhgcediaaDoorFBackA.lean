/- What asks and width say of a doubled backslash. -/
import Derived.Test.YtpflnhbhgcediaaDoorFSaneCEx
import Derived.Test.YtpflnhbhgcediaaDoorStr
namespace Go.Proofs.YtpflnhbhgcediaaDoor.Back4
open Go.RowKit Go.Proofs.YtpflnhbhgcediaaDoorW.PrintWords Go.Proofs.YtpflnhbhgcediaaDoorW.PrintLast Go.Proofs.YtpflnhbhgcediaaDoorW.PrintMore Go.Proofs.YtpflnhbhgcediaaDoorN Go.Proofs.YtpflnhbhgcediaaDoor.FnVal Go.Proofs.YtpflnhbhgcediaaDoor.QEx Go.Proofs.YtpflnhbhgcediaaDoor.Str
set_option linter.unusedVariables false
set_option linter.unusedSimpArgs false
set_option maxHeartbeats 4000000 in
set_option maxRecDepth 100000 in
theorem asks_no (s : ByteArray) (hs : 2 ≤ s.size) (h0 : ∀ h, ((s[0]'h).toNat : Int) = 92) (h1 : ∀ h, ((s[1]'h).toNat : Int) = 92) (w : World) :
    Calls Tryd.prog 33 #[.string s] w fun e w' => e = .returned (.tuple #[.agg #[.int .u8 0, .string ⟨#[]⟩, .int .i64 0, .int .i64 0], .bool false]) ∧ Below w.heap.size w w' := by
  have hu58 := Tryd.underlying68
  have p0 : (0 < s.size) = True := eq_true (by omega)
  have p1 : (1 < s.size) = True := eq_true (by omega)
  have q0 : (0 < (s.size : Int)) = True := eq_true (by omega)
  have q1 : (1 < (s.size : Int)) = True := eq_true (by omega)
  by_cases c : (s.size : Int) < 3
  · have c1 : decide ((s.size : Int) < 3) = true := decide_eq_true c
    have c2 : ((s.size : Int) < 3) = True := eq_true c
    clear c hs
    go_enter Tryd.func33, Tryd.ntmps33
    go_wp2
    refine bodyPost_ret (results_ct rfl _ _ w.heap.size 68 #[.int .u8 0, .string ⟨#[]⟩, .int .i64 0, .int .i64 0] (0, 0) _ rfl (by first | exact heap_alloc_new _ _ | exact (Lib.alloc_old _ _ _ (by show w.heap.size < (w.heap.push _).size; rw [Array.size_push]; omega)).trans (heap_alloc_new _ _)) Tryd.underlying68 rfl (by kernel_rfl)) rfl ?_
    exact ⟨rfl, by first | exact below_alloc (Below.refl _ _) _ | exact below_alloc (below_alloc (Below.refl _ _) _) _⟩
  · have c1 : decide ((s.size : Int) < 3) = false := decide_eq_false c
    have c2 : ((s.size : Int) < 3) = False := eq_false c
    clear c hs
    go_enter Tryd.func33, Tryd.ntmps33
    go_wp2
    refine bodyPost_ret (results_ct rfl _ _ w.heap.size 68 #[.int .u8 0, .string ⟨#[]⟩, .int .i64 0, .int .i64 0] (0, 0) _ rfl (by first | exact heap_alloc_new _ _ | exact (Lib.alloc_old _ _ _ (by show w.heap.size < (w.heap.push _).size; rw [Array.size_push]; omega)).trans (heap_alloc_new _ _)) Tryd.underlying68 rfl (by kernel_rfl)) rfl ?_
    exact ⟨rfl, by first | exact below_alloc (Below.refl _ _) _ | exact below_alloc (below_alloc (Below.refl _ _) _) _⟩
set_option maxHeartbeats 4000000 in
set_option maxRecDepth 100000 in
theorem width_no (s : ByteArray) (hs : 2 ≤ s.size) (h0 : ∀ h, ((s[0]'h).toNat : Int) = 92) (h1 : ∀ h, ((s[1]'h).toNat : Int) = 92) (w : World) :
    Calls Tryd.prog 36 #[.string s] w fun e w' => e = .returned (.tuple #[.string ⟨#[]⟩, .int .i64 0]) ∧ Below w.heap.size w w' := by
  have p0 : (0 < s.size) = True := eq_true (by omega)
  have p1 : (1 < s.size) = True := eq_true (by omega)
  have q0 : (0 < (s.size : Int)) = True := eq_true (by omega)
  have q1 : (1 < (s.size : Int)) = True := eq_true (by omega)
  by_cases c : (s.size : Int) < 4
  · have c1 : decide ((s.size : Int) < 4) = true := decide_eq_true c
    have c2 : ((s.size : Int) < 4) = True := eq_true c
    clear c hs
    go_enter Tryd.func36, Tryd.ntmps36
    go_wp2
    go_ret2
    exact ⟨rfl, Below.refl _ _⟩
  · have c1 : decide ((s.size : Int) < 4) = false := decide_eq_false c
    have c2 : ((s.size : Int) < 4) = False := eq_false c
    clear c hs
    go_enter Tryd.func36, Tryd.ntmps36
    go_wp2
    go_ret2
    exact ⟨rfl, Below.refl _ _⟩
end Go.Proofs.YtpflnhbhgcediaaDoor.Back4
