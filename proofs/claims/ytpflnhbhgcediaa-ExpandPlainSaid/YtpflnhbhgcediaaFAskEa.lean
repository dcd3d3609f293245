/- asks and At, walked by hand: what they say of any text. -/
import Derived.Test.YtpflnhbhgcediaaEsc4Ea
import Derived.Test.YtpflnhbhgcediaaQEax1
import Derived.Test.YtpflnhbhgcediaaFSaneEx
namespace Go.Proofs.Ytpflnhbhgcediaa.Ask4
open Go.RowKit Go.Proofs.Ytpflnhbhgcediaa.QEa Go.Proofs.YtpflnhbhgcediaaW.PrintWords Go.Proofs.YtpflnhbhgcediaaW.PrintLast Go.Proofs.YtpflnhbhgcediaaW.PrintMore Go.Proofs.YtpflnhbhgcediaaN Go.Proofs.Ytpflnhbhgcediaa.Evl Go.Proofs.Ytpflnhbhgcediaa.Str Go.Proofs.Ytpflnhbhgcediaa.Esc4
set_option linter.unusedVariables false
set_option linter.unusedSimpArgs false
theorem two_of {w w4 : World} {a b : Obj} (hb : Below ((w.alloc a).alloc b).heap.size ((w.alloc a).alloc b) w4) : w4.heap[w.heap.size]? = some a ∧ w4.heap[w.heap.size + 1]? = some b ∧ Below w.heap.size w w4 := by
  have e1 : (w.alloc a).heap.size = w.heap.size + 1 := by
    show (w.heap.push a).size = _
    rw [Array.size_push]
  have e2 : ((w.alloc a).alloc b).heap.size = w.heap.size + 1 + 1 := by
    show ((w.heap.push a).push b).size = _
    rw [Array.size_push, Array.size_push]
  refine ⟨(hb.block _ (by omega)).trans ((Lib.alloc_old _ _ _ (by omega)).trans (heap_alloc_new _ _)), (hb.block _ (by omega)).trans ?_, below_then (below_alloc (below_alloc (Below.refl _ _) a) b) (by omega) hb⟩
  rw [← e1]
  exact heap_alloc_new _ _
theorem ends {w w3 : World} {b0 b1 b2 b3 a0 a1 a2 a3 u1 u3 : Value} {t : TypeId} (h : w3.heap[w.heap.size]? = some (.cells #[b0, b1, b2, b3] t (0, 0))) :
    ((((((w3.setCell ⟨w.heap.size + 1, 1, none⟩ u1).setCell ⟨w.heap.size + 1, 3, none⟩ u3).setCell ⟨w.heap.size, 0, none⟩ a0).setCell ⟨w.heap.size, 1, none⟩ a1).setCell ⟨w.heap.size, 2, none⟩ a2).setCell ⟨w.heap.size, 3, none⟩ a3).heap[w.heap.size]? = some (.cells #[a0, a1, a2, a3] t (0, 0)) := by
  have hne : w.heap.size ≠ w.heap.size + 1 := by omega
  exact blk_put (blk_put (blk_put (blk_put ((Below.heap_setCell _ ⟨w.heap.size + 1, 3, none⟩ _ _ hne).trans ((Below.heap_setCell _ ⟨w.heap.size + 1, 1, none⟩ _ _ hne).trans h)) 0 a0 rfl) 1 a1 rfl) 2 a2 rfl) 3 a3 rfl
theorem ends_below {w w3 : World} {a0 a1 a2 a3 u1 u3 : Value} (h : Below w.heap.size w w3) :
    Below w.heap.size w ((((((w3.setCell ⟨w.heap.size + 1, 1, none⟩ u1).setCell ⟨w.heap.size + 1, 3, none⟩ u3).setCell ⟨w.heap.size, 0, none⟩ a0).setCell ⟨w.heap.size, 1, none⟩ a1).setCell ⟨w.heap.size, 2, none⟩ a2).setCell ⟨w.heap.size, 3, none⟩ a3) :=
  below_set (below_set (below_set (below_set (below_set (below_set h (Nat.le_succ _)) (Nat.le_succ _)) (Nat.le_refl _)) (Nat.le_refl _)) (Nat.le_refl _)) (Nat.le_refl _)
set_option maxHeartbeats 8000000 in
set_option maxRecDepth 100000 in
theorem asks_star (S R : ByteArray) (C : Int) (hC : C = 42 ∨ C = 36) (N : ByteArray) (T : Int) (hN : expand_name.f R = some (N, T)) (hl : 3 ≤ S.size) (x0 : ∀ h, ((S[0]'h).toNat : Int) = 92) (x1 : ∀ h, ((S[1]'h).toNat : Int) = C) (hR : S.extract 2 S.size = R) (w : World) :
    Calls Try.prog 28 #[.string S] w fun e w' => e = .returned (.tuple #[.agg #[.int .u8 C, .string N, .int .i64 0, .int .i64 (wrap64 (2 + T))], .bool (decide (T > 0))]) ∧ Below w.heap.size w w' := by
  have hu58 := Try.underlying58
  have p0 : (0 < S.size) = True := eq_true (by omega)
  have p1 : (1 < S.size) = True := eq_true (by omega)
  have p2 : (2 < S.size) = True := eq_true (by omega)
  have q0 : (0 < (S.size : Int)) = True := eq_true (by omega)
  have q1 : (1 < (S.size : Int)) = True := eq_true (by omega)
  have q4 : (2 < (S.size : Int)) = True := eq_true (by omega)
  have q2 : (2 ≤ (S.size : Int)) = True := eq_true (by omega)
  have q3 : (2 ≤ S.size) = True := eq_true (by omega)
  have q5 : (3 ≤ (S.size : Int)) = True := eq_true (by omega)
  have q6 : (3 ≤ S.size) = True := eq_true (by omega)
  have c1 : decide ((S.size : Int) < 3) = false := decide_eq_false (by omega)
  have c2 : ((S.size : Int) < 3) = False := eq_false (by omega)
  have HN := Aside0.mk hN
  clear hN hl
  rcases hC with rfl | rfl
  · go_enter Try.func28, Try.ntmps28
    go_wp2_with (first | (go_at_call 39; refine (expand_name.calls _ _ _ _ HN.out).mono ?_; rintro e w3 ⟨rfl, hb3⟩; have h3 := two_of hb3; have HB3 := Aside0.mk h3; have k0 := Lib.cell_of_heap h3.2.1 0; have k1 := Lib.cell_of_heap h3.2.1 1; have k2 := Lib.cell_of_heap h3.2.1 2; have k3 := Lib.cell_of_heap h3.2.1 3; have y1 := Lib.frozen_of_heap h3.2.1 1; have y3 := Lib.frozen_of_heap h3.2.1 3; have r0 := Lib.cell_of_heap h3.1 0; have z0 := Lib.frozen_of_heap h3.1 0; have r1 := Lib.cell_of_heap h3.1 1; have z1 := Lib.frozen_of_heap h3.1 1; have r2 := Lib.cell_of_heap h3.1 2; have z2 := Lib.frozen_of_heap h3.1 2; have r3 := Lib.cell_of_heap h3.1 3; have z3 := Lib.frozen_of_heap h3.1 3; clear h3 hb3))
    refine bodyPost_ret (results_ct rfl _ _ w.heap.size 58 #[.int .u8 42, .string N, .int .i64 0, .int .i64 (wrap64 (2 + T))] (0, 0) _ rfl (ends HB3.out.1) Try.underlying58 rfl (by kernel_rfl)) rfl ?_
    exact ⟨rfl, ends_below HB3.out.2.2⟩
  · go_enter Try.func28, Try.ntmps28
    go_wp2_with (first | (go_at_call 39; refine (expand_name.calls _ _ _ _ HN.out).mono ?_; rintro e w3 ⟨rfl, hb3⟩; have h3 := two_of hb3; have HB3 := Aside0.mk h3; have k0 := Lib.cell_of_heap h3.2.1 0; have k1 := Lib.cell_of_heap h3.2.1 1; have k2 := Lib.cell_of_heap h3.2.1 2; have k3 := Lib.cell_of_heap h3.2.1 3; have y1 := Lib.frozen_of_heap h3.2.1 1; have y3 := Lib.frozen_of_heap h3.2.1 3; have r0 := Lib.cell_of_heap h3.1 0; have z0 := Lib.frozen_of_heap h3.1 0; have r1 := Lib.cell_of_heap h3.1 1; have z1 := Lib.frozen_of_heap h3.1 1; have r2 := Lib.cell_of_heap h3.1 2; have z2 := Lib.frozen_of_heap h3.1 2; have r3 := Lib.cell_of_heap h3.1 3; have z3 := Lib.frozen_of_heap h3.1 3; clear h3 hb3))
    refine bodyPost_ret (results_ct rfl _ _ w.heap.size 58 #[.int .u8 36, .string N, .int .i64 0, .int .i64 (wrap64 (2 + T))] (0, 0) _ rfl (ends HB3.out.1) Try.underlying58 rfl (by kernel_rfl)) rfl ?_
    exact ⟨rfl, ends_below HB3.out.2.2⟩
set_option maxHeartbeats 8000000 in
set_option maxRecDepth 100000 in
theorem asks_plus (S R : ByteArray) (N : ByteArray) (T : Int) (hN : expand_name.f R = some (N, T)) (hl : 3 ≤ S.size) (x0 : ∀ h, ((S[0]'h).toNat : Int) = 92) (x1 : ∀ h, ((S[1]'h).toNat : Int) = 110) (x2 : ∀ h, ((S[2]'h).toNat : Int) = 43) (hR : S.extract 3 S.size = R) (w : World) :
    Calls Try.prog 28 #[.string S] w fun e w' => e = .returned (.tuple #[.agg #[.int .u8 110, .string N, .int .i64 1, .int .i64 (wrap64 (3 + T))], .bool (decide (T > 0))]) ∧ Below w.heap.size w w' := by
  have hu58 := Try.underlying58
  have p0 : (0 < S.size) = True := eq_true (by omega)
  have p1 : (1 < S.size) = True := eq_true (by omega)
  have p2 : (2 < S.size) = True := eq_true (by omega)
  have q0 : (0 < (S.size : Int)) = True := eq_true (by omega)
  have q1 : (1 < (S.size : Int)) = True := eq_true (by omega)
  have q4 : (2 < (S.size : Int)) = True := eq_true (by omega)
  have q2 : (2 ≤ (S.size : Int)) = True := eq_true (by omega)
  have q3 : (2 ≤ S.size) = True := eq_true (by omega)
  have q5 : (3 ≤ (S.size : Int)) = True := eq_true (by omega)
  have q6 : (3 ≤ S.size) = True := eq_true (by omega)
  have c1 : decide ((S.size : Int) < 3) = false := decide_eq_false (by omega)
  have c2 : ((S.size : Int) < 3) = False := eq_false (by omega)
  have HN := Aside0.mk hN
  clear hN hl
  · go_enter Try.func28, Try.ntmps28
    go_wp2_with (first | (go_at_call 39; refine (expand_name.calls _ _ _ _ HN.out).mono ?_; rintro e w3 ⟨rfl, hb3⟩; have h3 := two_of hb3; have HB3 := Aside0.mk h3; have k0 := Lib.cell_of_heap h3.2.1 0; have k1 := Lib.cell_of_heap h3.2.1 1; have k2 := Lib.cell_of_heap h3.2.1 2; have k3 := Lib.cell_of_heap h3.2.1 3; have y1 := Lib.frozen_of_heap h3.2.1 1; have y3 := Lib.frozen_of_heap h3.2.1 3; have r0 := Lib.cell_of_heap h3.1 0; have z0 := Lib.frozen_of_heap h3.1 0; have r1 := Lib.cell_of_heap h3.1 1; have z1 := Lib.frozen_of_heap h3.1 1; have r2 := Lib.cell_of_heap h3.1 2; have z2 := Lib.frozen_of_heap h3.1 2; have r3 := Lib.cell_of_heap h3.1 3; have z3 := Lib.frozen_of_heap h3.1 3; clear h3 hb3))
    refine bodyPost_ret (results_ct rfl _ _ w.heap.size 58 #[.int .u8 110, .string N, .int .i64 1, .int .i64 (wrap64 (3 + T))] (0, 0) _ rfl (ends HB3.out.1) Try.underlying58 rfl (by kernel_rfl)) rfl ?_
    exact ⟨rfl, ends_below HB3.out.2.2⟩
set_option maxHeartbeats 8000000 in
set_option maxRecDepth 100000 in
theorem asks_minus (S R : ByteArray) (N : ByteArray) (T : Int) (hN : expand_name.f R = some (N, T)) (hl : 3 ≤ S.size) (x0 : ∀ h, ((S[0]'h).toNat : Int) = 92) (x1 : ∀ h, ((S[1]'h).toNat : Int) = 110) (x2 : ∀ h, ((S[2]'h).toNat : Int) = 45) (hR : S.extract 3 S.size = R) (w : World) :
    Calls Try.prog 28 #[.string S] w fun e w' => e = .returned (.tuple #[.agg #[.int .u8 110, .string N, .int .i64 (-1), .int .i64 (wrap64 (3 + T))], .bool (decide (T > 0))]) ∧ Below w.heap.size w w' := by
  have hu58 := Try.underlying58
  have p0 : (0 < S.size) = True := eq_true (by omega)
  have p1 : (1 < S.size) = True := eq_true (by omega)
  have p2 : (2 < S.size) = True := eq_true (by omega)
  have q0 : (0 < (S.size : Int)) = True := eq_true (by omega)
  have q1 : (1 < (S.size : Int)) = True := eq_true (by omega)
  have q4 : (2 < (S.size : Int)) = True := eq_true (by omega)
  have q2 : (2 ≤ (S.size : Int)) = True := eq_true (by omega)
  have q3 : (2 ≤ S.size) = True := eq_true (by omega)
  have q5 : (3 ≤ (S.size : Int)) = True := eq_true (by omega)
  have q6 : (3 ≤ S.size) = True := eq_true (by omega)
  have c1 : decide ((S.size : Int) < 3) = false := decide_eq_false (by omega)
  have c2 : ((S.size : Int) < 3) = False := eq_false (by omega)
  have HN := Aside0.mk hN
  clear hN hl
  · go_enter Try.func28, Try.ntmps28
    go_wp2_with (first | (go_at_call 39; refine (expand_name.calls _ _ _ _ HN.out).mono ?_; rintro e w3 ⟨rfl, hb3⟩; have h3 := two_of hb3; have HB3 := Aside0.mk h3; have k0 := Lib.cell_of_heap h3.2.1 0; have k1 := Lib.cell_of_heap h3.2.1 1; have k2 := Lib.cell_of_heap h3.2.1 2; have k3 := Lib.cell_of_heap h3.2.1 3; have y1 := Lib.frozen_of_heap h3.2.1 1; have y3 := Lib.frozen_of_heap h3.2.1 3; have r0 := Lib.cell_of_heap h3.1 0; have z0 := Lib.frozen_of_heap h3.1 0; have r1 := Lib.cell_of_heap h3.1 1; have z1 := Lib.frozen_of_heap h3.1 1; have r2 := Lib.cell_of_heap h3.1 2; have z2 := Lib.frozen_of_heap h3.1 2; have r3 := Lib.cell_of_heap h3.1 3; have z3 := Lib.frozen_of_heap h3.1 3; clear h3 hb3))
    refine bodyPost_ret (results_ct rfl _ _ w.heap.size 58 #[.int .u8 110, .string N, .int .i64 (-1), .int .i64 (wrap64 (3 + T))] (0, 0) _ rfl (ends HB3.out.1) Try.underlying58 rfl (by kernel_rfl)) rfl ?_
    exact ⟨rfl, ends_below HB3.out.2.2⟩
set_option maxHeartbeats 8000000 in
set_option maxRecDepth 100000 in
theorem asks_num (S R : ByteArray) (D : Int) (h43 : ¬ D = 43) (h45 : ¬ D = 45) (N : ByteArray) (T : Int) (hN : expand_name.f R = some (N, T)) (hl : 3 ≤ S.size) (x0 : ∀ h, ((S[0]'h).toNat : Int) = 92) (x1 : ∀ h, ((S[1]'h).toNat : Int) = 110) (x2 : ∀ h, ((S[2]'h).toNat : Int) = D) (hR : S.extract 2 S.size = R) (w : World) :
    Calls Try.prog 28 #[.string S] w fun e w' => e = .returned (.tuple #[.agg #[.int .u8 110, .string N, .int .i64 0, .int .i64 (wrap64 (2 + T))], .bool (decide (T > 0))]) ∧ Below w.heap.size w w' := by
  have hu58 := Try.underlying58
  have p0 : (0 < S.size) = True := eq_true (by omega)
  have p1 : (1 < S.size) = True := eq_true (by omega)
  have p2 : (2 < S.size) = True := eq_true (by omega)
  have q0 : (0 < (S.size : Int)) = True := eq_true (by omega)
  have q1 : (1 < (S.size : Int)) = True := eq_true (by omega)
  have q4 : (2 < (S.size : Int)) = True := eq_true (by omega)
  have q2 : (2 ≤ (S.size : Int)) = True := eq_true (by omega)
  have q3 : (2 ≤ S.size) = True := eq_true (by omega)
  have q5 : (3 ≤ (S.size : Int)) = True := eq_true (by omega)
  have q6 : (3 ≤ S.size) = True := eq_true (by omega)
  have c1 : decide ((S.size : Int) < 3) = false := decide_eq_false (by omega)
  have c2 : ((S.size : Int) < 3) = False := eq_false (by omega)
  have d1 : ((D == 43) : Bool) = false := beq_eq_false_iff_ne.2 h43
  have d2 : ((D == 45) : Bool) = false := beq_eq_false_iff_ne.2 h45
  have HN := Aside0.mk hN
  clear hN hl
  · go_enter Try.func28, Try.ntmps28
    go_wp2_with (first | (go_at_call 39; refine (expand_name.calls _ _ _ _ HN.out).mono ?_; rintro e w3 ⟨rfl, hb3⟩; have h3 := two_of hb3; have HB3 := Aside0.mk h3; have k0 := Lib.cell_of_heap h3.2.1 0; have k1 := Lib.cell_of_heap h3.2.1 1; have k2 := Lib.cell_of_heap h3.2.1 2; have k3 := Lib.cell_of_heap h3.2.1 3; have y1 := Lib.frozen_of_heap h3.2.1 1; have y3 := Lib.frozen_of_heap h3.2.1 3; have r0 := Lib.cell_of_heap h3.1 0; have z0 := Lib.frozen_of_heap h3.1 0; have r1 := Lib.cell_of_heap h3.1 1; have z1 := Lib.frozen_of_heap h3.1 1; have r2 := Lib.cell_of_heap h3.1 2; have z2 := Lib.frozen_of_heap h3.1 2; have r3 := Lib.cell_of_heap h3.1 3; have z3 := Lib.frozen_of_heap h3.1 3; clear h3 hb3))
    refine bodyPost_ret (results_ct rfl _ _ w.heap.size 58 #[.int .u8 110, .string N, .int .i64 0, .int .i64 (wrap64 (2 + T))] (0, 0) _ rfl (ends HB3.out.1) Try.underlying58 rfl (by kernel_rfl)) rfl ?_
    exact ⟨rfl, ends_below HB3.out.2.2⟩
set_option maxHeartbeats 8000000 in
set_option maxRecDepth 100000 in
theorem asks_short (S : ByteArray) (hl : S.size < 3) (w : World) :
    Calls Try.prog 28 #[.string S] w fun e w' => e = .returned (.tuple #[.agg #[.int .u8 0, .string ⟨#[]⟩, .int .i64 0, .int .i64 0], .bool false]) ∧ Below w.heap.size w w' := by
  have hu58 := Try.underlying58
  have c1 : decide ((S.size : Int) < 3) = true := decide_eq_true (by omega)
  have c2 : ((S.size : Int) < 3) = True := eq_true (by omega)
  clear hl
  · go_enter Try.func28, Try.ntmps28
    go_wp2
    refine bodyPost_ret (results_ct rfl _ _ w.heap.size 58 #[.int .u8 0, .string ⟨#[]⟩, .int .i64 0, .int .i64 0] (0, 0) _ rfl (by first | exact heap_alloc_new _ _ | exact (Lib.alloc_old _ _ _ (by show w.heap.size < (w.heap.push _).size; rw [Array.size_push]; omega)).trans (heap_alloc_new _ _)) Try.underlying58 rfl (by kernel_rfl)) rfl ?_
    exact ⟨rfl, by first | exact below_alloc (Below.refl _ _) _ | exact below_alloc (below_alloc (Below.refl _ _) _) _⟩
set_option maxHeartbeats 8000000 in
set_option maxRecDepth 100000 in
theorem asks_first (S : ByteArray) (hl : 3 ≤ S.size) (B : Int) (x0 : ∀ h, ((S[0]'h).toNat : Int) = B) (hB : ¬ B = 92) (w : World) :
    Calls Try.prog 28 #[.string S] w fun e w' => e = .returned (.tuple #[.agg #[.int .u8 0, .string ⟨#[]⟩, .int .i64 0, .int .i64 0], .bool false]) ∧ Below w.heap.size w w' := by
  have hu58 := Try.underlying58
  have p0 : (0 < S.size) = True := eq_true (by omega)
  have p1 : (1 < S.size) = True := eq_true (by omega)
  have q0 : (0 < (S.size : Int)) = True := eq_true (by omega)
  have q1 : (1 < (S.size : Int)) = True := eq_true (by omega)
  have c1 : decide ((S.size : Int) < 3) = false := decide_eq_false (by omega)
  have c2 : ((S.size : Int) < 3) = False := eq_false (by omega)
  have d1 : ((B != 92) : Bool) = true := bne_iff_ne.2 hB
  clear hl hB
  · go_enter Try.func28, Try.ntmps28
    go_wp2
    refine bodyPost_ret (results_ct rfl _ _ w.heap.size 58 #[.int .u8 0, .string ⟨#[]⟩, .int .i64 0, .int .i64 0] (0, 0) _ rfl (by first | exact heap_alloc_new _ _ | exact (Lib.alloc_old _ _ _ (by show w.heap.size < (w.heap.push _).size; rw [Array.size_push]; omega)).trans (heap_alloc_new _ _)) Try.underlying58 rfl (by kernel_rfl)) rfl ?_
    exact ⟨rfl, by first | exact below_alloc (Below.refl _ _) _ | exact below_alloc (below_alloc (Below.refl _ _) _) _⟩
set_option maxHeartbeats 8000000 in
set_option maxRecDepth 100000 in
theorem asks_kind (S : ByteArray) (hl : 3 ≤ S.size) (x0 : ∀ h, ((S[0]'h).toNat : Int) = 92) (C : Int) (x1 : ∀ h, ((S[1]'h).toNat : Int) = C) (h1 : ¬ C = 110) (h2 : ¬ C = 42) (h3 : ¬ C = 36) (w : World) :
    Calls Try.prog 28 #[.string S] w fun e w' => e = .returned (.tuple #[.agg #[.int .u8 0, .string ⟨#[]⟩, .int .i64 0, .int .i64 0], .bool false]) ∧ Below w.heap.size w w' := by
  have hu58 := Try.underlying58
  have p0 : (0 < S.size) = True := eq_true (by omega)
  have p1 : (1 < S.size) = True := eq_true (by omega)
  have q0 : (0 < (S.size : Int)) = True := eq_true (by omega)
  have q1 : (1 < (S.size : Int)) = True := eq_true (by omega)
  have c1 : decide ((S.size : Int) < 3) = false := decide_eq_false (by omega)
  have c2 : ((S.size : Int) < 3) = False := eq_false (by omega)
  have d1 : ((C == 110) : Bool) = false := beq_eq_false_iff_ne.2 h1
  have d2 : ((C == 42) : Bool) = false := beq_eq_false_iff_ne.2 h2
  have d3 : ((C == 36) : Bool) = false := beq_eq_false_iff_ne.2 h3
  clear hl h1 h2 h3
  · go_enter Try.func28, Try.ntmps28
    go_wp2
    refine bodyPost_ret (results_ct rfl _ _ w.heap.size 58 #[.int .u8 0, .string ⟨#[]⟩, .int .i64 0, .int .i64 0] (0, 0) _ rfl (by first | exact heap_alloc_new _ _ | exact (Lib.alloc_old _ _ _ (by show w.heap.size < (w.heap.push _).size; rw [Array.size_push]; omega)).trans (heap_alloc_new _ _)) Try.underlying58 rfl (by kernel_rfl)) rfl ?_
    exact ⟨rfl, by first | exact below_alloc (Below.refl _ _) _ | exact below_alloc (below_alloc (Below.refl _ _) _) _⟩
/-- What asks answers, of any text. -/
def An (o : Option Es) (w : World) (e : Ending) (w' : World) : Prop := ∃ v : Int × ByteArray × Int × Int × Bool, Says o v ∧ e = .returned (.tuple #[.agg #[.int .u8 v.1, .string v.2.1, .int .i64 v.2.2.1, .int .i64 v.2.2.2.1], .bool v.2.2.2.2]) ∧ Below w.heap.size w w'
theorem asks_esc (s : List UInt8) (hs : s.length < 1000000000) (w : World) : Calls Try.prog 28 #[.string (mkB s)] w (An (esc s) w) := by
  have no : ∀ {e w'}, (e = Ending.returned (.tuple #[.agg #[.int .u8 0, .string ⟨#[]⟩, .int .i64 0, .int .i64 0], .bool false]) ∧ Below w.heap.size w w') → An none w e w' := fun ⟨h1, h2⟩ => ⟨(0, ⟨#[]⟩, 0, 0, false), says_no _ _ _ _, h1, h2⟩
  match s, hs with
  | [], _ => exact (asks_short (mkB []) (by rw [size_mkB]; decide) w).mono fun e w' h => no h
  | [a], _ => exact (asks_short (mkB [a]) (by rw [size_mkB]; simp) w).mono fun e w' h => no h
  | [a, b], _ => exact (asks_short (mkB [a, b]) (by rw [size_mkB]; simp) w).mono fun e w' h => no h
  | b :: c :: d :: r, hs =>
    have hl : 3 ≤ (mkB (b :: c :: d :: r)).size := by rw [size_mkB]; simp only [List.length_cons]; omega
    have hr : r.length < 1000000000 := by simp only [List.length_cons] at hs; omega
    have x0 : ∀ h, (((mkB (b :: c :: d :: r))[0]'h).toNat : Int) = (b.toNat : Int) := fun _ => rfl
    have x1 : ∀ h, (((mkB (b :: c :: d :: r))[1]'h).toNat : Int) = (c.toNat : Int) := fun _ => rfl
    have x2 : ∀ h, (((mkB (b :: c :: d :: r))[2]'h).toNat : Int) = (d.toNat : Int) := fun _ => rfl
    have r2 : (mkB (b :: c :: d :: r)).extract 2 (mkB (b :: c :: d :: r)).size = mkB (d :: r) := by rw [extract_mkB, size_mkB, List.take_length]; rfl
    have r3 : (mkB (b :: c :: d :: r)).extract 3 (mkB (b :: c :: d :: r)).size = mkB r := by rw [extract_mkB, size_mkB, List.take_length]; rfl
    have n2 := name_f (d :: r) (by simp only [List.length_cons] at hs ⊢; omega)
    have n3 := name_f r (by omega)
    have s2 := nm_small (d :: r)
    have s3 := nm_small r
    simp only [List.length_cons] at s2 s3
    have b92 : ((b.toNat : Int) = 92) ↔ b = 92 := b_eq (n := 92) (by decide)
    have c110 : ((c.toNat : Int) = 110) ↔ c = 110 := b_eq (n := 110) (by decide)
    have c42 : ((c.toNat : Int) = 42) ↔ c = 42 := b_eq (n := 42) (by decide)
    have c36 : ((c.toNat : Int) = 36) ↔ c = 36 := b_eq (n := 36) (by decide)
    have d43 : ((d.toNat : Int) = 43) ↔ d = 43 := b_eq (n := 43) (by decide)
    have d45 : ((d.toNat : Int) = 45) ↔ d = 45 := b_eq (n := 45) (by decide)
    rw [esc]
    by_cases hb : b = 92
    · rw [if_pos hb, esc3]
      have x0' : ∀ h, (((mkB (b :: c :: d :: r))[0]'h).toNat : Int) = 92 := fun h => (x0 h).trans (b92.2 hb)
      by_cases h1 : c = 110
      · rw [if_pos h1]
        have x1' : ∀ h, (((mkB (b :: c :: d :: r))[1]'h).toNat : Int) = 110 := fun h => (x1 h).trans (c110.2 h1)
        have hk : (c.toNat : Int) = 110 := c110.2 h1
        by_cases h2 : d = 43
        · rw [if_pos h2]
          refine (asks_plus _ _ _ _ n3 hl x0' x1' (fun h => (x2 h).trans (d43.2 h2)) r3 w).mono fun e w' ⟨he, hb⟩ => ⟨_, says_mk c 1 3 (nm r) (by omega) (by omega), ?_, hb⟩
          rw [he, hk]
          rfl
        · rw [if_neg h2]
          by_cases h3 : d = 45
          · rw [if_pos h3]
            refine (asks_minus _ _ _ _ n3 hl x0' x1' (fun h => (x2 h).trans (d45.2 h3)) r3 w).mono fun e w' ⟨he, hb⟩ => ⟨_, says_mk c (-1) 3 (nm r) (by omega) (by omega), ?_, hb⟩
            rw [he, hk]
            rfl
          · rw [if_neg h3]
            refine (asks_num _ _ _ (fun e => h2 (d43.1 e)) (fun e => h3 (d45.1 e)) _ _ n2 hl x0' x1' x2 r2 w).mono fun e w' ⟨he, hb⟩ => ⟨_, says_mk c 0 2 (nm (d :: r)) (by omega) (by omega), ?_, hb⟩
            rw [he, hk]
            rfl
      · rw [if_neg h1]
        by_cases h2 : c = 42 ∨ c = 36
        · rw [if_pos h2]
          refine (asks_star _ _ _ (h2.elim (fun e => Or.inl (c42.2 e)) (fun e => Or.inr (c36.2 e))) _ _ n2 hl x0' x1 r2 w).mono fun e w' ⟨he, hb⟩ => ⟨_, says_mk c 0 2 (nm (d :: r)) (by omega) (by omega), ?_, hb⟩
          rw [he]
          rfl
        · rw [if_neg h2]
          exact (asks_kind _ hl x0' _ x1 (fun e => h1 (c110.1 e)) (fun e => h2 (Or.inl (c42.1 e))) (fun e => h2 (Or.inr (c36.1 e))) w).mono fun e w' h => no h
    · rw [if_neg hb]
      exact (asks_first _ hl _ x0 (fun e => hb (b92.1 e)) w).mono fun e w' h => no h
end Go.Proofs.Ytpflnhbhgcediaa.Ask4
