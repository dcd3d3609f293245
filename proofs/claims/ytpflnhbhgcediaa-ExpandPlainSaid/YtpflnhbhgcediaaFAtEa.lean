/- frisketref04.At, walked by hand. -/
import Derived.Test.YtpflnhbhgcediaaEsc4REa
import Derived.Test.YtpflnhbhgcediaaFAskEa
import Derived.Test.YtpflnhbhgcediaaQEax2
namespace Go.Proofs.Ytpflnhbhgcediaa.Ask4
open Go.RowKit Go.Proofs.Ytpflnhbhgcediaa.QEa Go.Proofs.YtpflnhbhgcediaaW.PrintWords Go.Proofs.YtpflnhbhgcediaaW.PrintLast Go.Proofs.YtpflnhbhgcediaaW.PrintMore Go.Proofs.YtpflnhbhgcediaaN Go.Proofs.Ytpflnhbhgcediaa.Evl Go.Proofs.Ytpflnhbhgcediaa.Str Go.Proofs.Ytpflnhbhgcediaa.Esc4
set_option linter.unusedVariables false
set_option linter.unusedSimpArgs false
set_option maxHeartbeats 8000000 in
set_option maxRecDepth 100000 in
theorem at_star (S : ByteArray) (C : Int) (hC : C = 42 ∨ C = 36) (k : Nat) (N : ByteArray) (T : Int) (hN : frisketref04_name.f k S 2 = some (N, T)) (hl : 3 ≤ S.size) (x0 : ∀ h, ((S[0]'h).toNat : Int) = 92) (x1 : ∀ h, ((S[1]'h).toNat : Int) = C) (w : World) :
    Calls Try.prog 35 #[.string S] w fun e w' => e = .returned (.tuple #[.agg #[.int .u8 C, .string N, .int .i64 0, .int .i64 T], .bool (decide (T > 0))]) ∧ Below w.heap.size w w' := by
  have hu80 := Try.underlying80
  have p0 : (0 < S.size) = True := eq_true (by omega)
  have p1 : (1 < S.size) = True := eq_true (by omega)
  have p2 : (2 < S.size) = True := eq_true (by omega)
  have q0 : (0 < (S.size : Int)) = True := eq_true (by omega)
  have q1 : (1 < (S.size : Int)) = True := eq_true (by omega)
  have q4 : (2 < (S.size : Int)) = True := eq_true (by omega)
  have c1 : decide ((S.size : Int) < 3) = false := decide_eq_false (by omega)
  have c2 : ((S.size : Int) < 3) = False := eq_false (by omega)
  have HN := Aside0.mk hN
  clear hN hl
  rcases hC with rfl | rfl
  · go_enter Try.func35, Try.ntmps35
    go_wp2_with (first | (go_at_call 40; refine (frisketref04_name.calls k _ _ _ _ _ HN.out).mono ?_; rintro e w3 ⟨rfl, hd3⟩; have h3 := two_of hd3.below; have HB3 := Aside0.mk h3; have k0 := Lib.cell_of_heap h3.2.1 0; have y0 := Lib.frozen_of_heap h3.2.1 0; have r0 := Lib.cell_of_heap h3.1 0; have z0 := Lib.frozen_of_heap h3.1 0; have k1 := Lib.cell_of_heap h3.2.1 1; have y1 := Lib.frozen_of_heap h3.2.1 1; have r1 := Lib.cell_of_heap h3.1 1; have z1 := Lib.frozen_of_heap h3.1 1; have k2 := Lib.cell_of_heap h3.2.1 2; have y2 := Lib.frozen_of_heap h3.2.1 2; have r2 := Lib.cell_of_heap h3.1 2; have z2 := Lib.frozen_of_heap h3.1 2; have k3 := Lib.cell_of_heap h3.2.1 3; have y3 := Lib.frozen_of_heap h3.2.1 3; have r3 := Lib.cell_of_heap h3.1 3; have z3 := Lib.frozen_of_heap h3.1 3; clear h3 hd3))
    go_region
    go_wp2
    refine bodyPost_ret (results_ct rfl _ _ w.heap.size 80 #[.int .u8 42, .string N, .int .i64 0, .int .i64 T] (0, 0) _ rfl (blk_drew (ends HB3.out.1)) Try.underlying80 rfl (by kernel_rfl)) rfl ?_
    exact ⟨rfl, below_drew (ends_below HB3.out.2.2)⟩
  · go_enter Try.func35, Try.ntmps35
    go_wp2_with (first | (go_at_call 40; refine (frisketref04_name.calls k _ _ _ _ _ HN.out).mono ?_; rintro e w3 ⟨rfl, hd3⟩; have h3 := two_of hd3.below; have HB3 := Aside0.mk h3; have k0 := Lib.cell_of_heap h3.2.1 0; have y0 := Lib.frozen_of_heap h3.2.1 0; have r0 := Lib.cell_of_heap h3.1 0; have z0 := Lib.frozen_of_heap h3.1 0; have k1 := Lib.cell_of_heap h3.2.1 1; have y1 := Lib.frozen_of_heap h3.2.1 1; have r1 := Lib.cell_of_heap h3.1 1; have z1 := Lib.frozen_of_heap h3.1 1; have k2 := Lib.cell_of_heap h3.2.1 2; have y2 := Lib.frozen_of_heap h3.2.1 2; have r2 := Lib.cell_of_heap h3.1 2; have z2 := Lib.frozen_of_heap h3.1 2; have k3 := Lib.cell_of_heap h3.2.1 3; have y3 := Lib.frozen_of_heap h3.2.1 3; have r3 := Lib.cell_of_heap h3.1 3; have z3 := Lib.frozen_of_heap h3.1 3; clear h3 hd3))
    go_region
    go_wp2
    refine bodyPost_ret (results_ct rfl _ _ w.heap.size 80 #[.int .u8 36, .string N, .int .i64 0, .int .i64 T] (0, 0) _ rfl (blk_drew (ends HB3.out.1)) Try.underlying80 rfl (by kernel_rfl)) rfl ?_
    exact ⟨rfl, below_drew (ends_below HB3.out.2.2)⟩
set_option maxHeartbeats 8000000 in
set_option maxRecDepth 100000 in
theorem at_plus (S : ByteArray) (k : Nat) (N : ByteArray) (T : Int) (hN : frisketref04_name.f k S 3 = some (N, T)) (hl : 3 ≤ S.size) (x0 : ∀ h, ((S[0]'h).toNat : Int) = 92) (x1 : ∀ h, ((S[1]'h).toNat : Int) = 110) (x2 : ∀ h, ((S[2]'h).toNat : Int) = 43) (w : World) :
    Calls Try.prog 35 #[.string S] w fun e w' => e = .returned (.tuple #[.agg #[.int .u8 110, .string N, .int .i64 1, .int .i64 T], .bool (decide (T > 0))]) ∧ Below w.heap.size w w' := by
  have hu80 := Try.underlying80
  have p0 : (0 < S.size) = True := eq_true (by omega)
  have p1 : (1 < S.size) = True := eq_true (by omega)
  have p2 : (2 < S.size) = True := eq_true (by omega)
  have q0 : (0 < (S.size : Int)) = True := eq_true (by omega)
  have q1 : (1 < (S.size : Int)) = True := eq_true (by omega)
  have q4 : (2 < (S.size : Int)) = True := eq_true (by omega)
  have c1 : decide ((S.size : Int) < 3) = false := decide_eq_false (by omega)
  have c2 : ((S.size : Int) < 3) = False := eq_false (by omega)
  have HN := Aside0.mk hN
  clear hN hl
  · go_enter Try.func35, Try.ntmps35
    go_wp2_with (first | (go_at_call 40; refine (frisketref04_name.calls k _ _ _ _ _ HN.out).mono ?_; rintro e w3 ⟨rfl, hd3⟩; have h3 := two_of hd3.below; have HB3 := Aside0.mk h3; have k0 := Lib.cell_of_heap h3.2.1 0; have y0 := Lib.frozen_of_heap h3.2.1 0; have r0 := Lib.cell_of_heap h3.1 0; have z0 := Lib.frozen_of_heap h3.1 0; have k1 := Lib.cell_of_heap h3.2.1 1; have y1 := Lib.frozen_of_heap h3.2.1 1; have r1 := Lib.cell_of_heap h3.1 1; have z1 := Lib.frozen_of_heap h3.1 1; have k2 := Lib.cell_of_heap h3.2.1 2; have y2 := Lib.frozen_of_heap h3.2.1 2; have r2 := Lib.cell_of_heap h3.1 2; have z2 := Lib.frozen_of_heap h3.1 2; have k3 := Lib.cell_of_heap h3.2.1 3; have y3 := Lib.frozen_of_heap h3.2.1 3; have r3 := Lib.cell_of_heap h3.1 3; have z3 := Lib.frozen_of_heap h3.1 3; clear h3 hd3))
    go_region
    go_wp2
    refine bodyPost_ret (results_ct rfl _ _ w.heap.size 80 #[.int .u8 110, .string N, .int .i64 1, .int .i64 T] (0, 0) _ rfl (blk_drew (ends HB3.out.1)) Try.underlying80 rfl (by kernel_rfl)) rfl ?_
    exact ⟨rfl, below_drew (ends_below HB3.out.2.2)⟩
set_option maxHeartbeats 8000000 in
set_option maxRecDepth 100000 in
theorem at_minus (S : ByteArray) (k : Nat) (N : ByteArray) (T : Int) (hN : frisketref04_name.f k S 3 = some (N, T)) (hl : 3 ≤ S.size) (x0 : ∀ h, ((S[0]'h).toNat : Int) = 92) (x1 : ∀ h, ((S[1]'h).toNat : Int) = 110) (x2 : ∀ h, ((S[2]'h).toNat : Int) = 45) (w : World) :
    Calls Try.prog 35 #[.string S] w fun e w' => e = .returned (.tuple #[.agg #[.int .u8 110, .string N, .int .i64 (-1), .int .i64 T], .bool (decide (T > 0))]) ∧ Below w.heap.size w w' := by
  have hu80 := Try.underlying80
  have p0 : (0 < S.size) = True := eq_true (by omega)
  have p1 : (1 < S.size) = True := eq_true (by omega)
  have p2 : (2 < S.size) = True := eq_true (by omega)
  have q0 : (0 < (S.size : Int)) = True := eq_true (by omega)
  have q1 : (1 < (S.size : Int)) = True := eq_true (by omega)
  have q4 : (2 < (S.size : Int)) = True := eq_true (by omega)
  have c1 : decide ((S.size : Int) < 3) = false := decide_eq_false (by omega)
  have c2 : ((S.size : Int) < 3) = False := eq_false (by omega)
  have HN := Aside0.mk hN
  clear hN hl
  · go_enter Try.func35, Try.ntmps35
    go_wp2_with (first | (go_at_call 40; refine (frisketref04_name.calls k _ _ _ _ _ HN.out).mono ?_; rintro e w3 ⟨rfl, hd3⟩; have h3 := two_of hd3.below; have HB3 := Aside0.mk h3; have k0 := Lib.cell_of_heap h3.2.1 0; have y0 := Lib.frozen_of_heap h3.2.1 0; have r0 := Lib.cell_of_heap h3.1 0; have z0 := Lib.frozen_of_heap h3.1 0; have k1 := Lib.cell_of_heap h3.2.1 1; have y1 := Lib.frozen_of_heap h3.2.1 1; have r1 := Lib.cell_of_heap h3.1 1; have z1 := Lib.frozen_of_heap h3.1 1; have k2 := Lib.cell_of_heap h3.2.1 2; have y2 := Lib.frozen_of_heap h3.2.1 2; have r2 := Lib.cell_of_heap h3.1 2; have z2 := Lib.frozen_of_heap h3.1 2; have k3 := Lib.cell_of_heap h3.2.1 3; have y3 := Lib.frozen_of_heap h3.2.1 3; have r3 := Lib.cell_of_heap h3.1 3; have z3 := Lib.frozen_of_heap h3.1 3; clear h3 hd3))
    go_region
    go_wp2
    refine bodyPost_ret (results_ct rfl _ _ w.heap.size 80 #[.int .u8 110, .string N, .int .i64 (-1), .int .i64 T] (0, 0) _ rfl (blk_drew (ends HB3.out.1)) Try.underlying80 rfl (by kernel_rfl)) rfl ?_
    exact ⟨rfl, below_drew (ends_below HB3.out.2.2)⟩
set_option maxHeartbeats 8000000 in
set_option maxRecDepth 100000 in
theorem at_num (S : ByteArray) (D : Int) (h43 : ¬ D = 43) (h45 : ¬ D = 45) (k : Nat) (N : ByteArray) (T : Int) (hN : frisketref04_name.f k S 2 = some (N, T)) (hl : 3 ≤ S.size) (x0 : ∀ h, ((S[0]'h).toNat : Int) = 92) (x1 : ∀ h, ((S[1]'h).toNat : Int) = 110) (x2 : ∀ h, ((S[2]'h).toNat : Int) = D) (w : World) :
    Calls Try.prog 35 #[.string S] w fun e w' => e = .returned (.tuple #[.agg #[.int .u8 110, .string N, .int .i64 0, .int .i64 T], .bool (decide (T > 0))]) ∧ Below w.heap.size w w' := by
  have hu80 := Try.underlying80
  have p0 : (0 < S.size) = True := eq_true (by omega)
  have p1 : (1 < S.size) = True := eq_true (by omega)
  have p2 : (2 < S.size) = True := eq_true (by omega)
  have q0 : (0 < (S.size : Int)) = True := eq_true (by omega)
  have q1 : (1 < (S.size : Int)) = True := eq_true (by omega)
  have q4 : (2 < (S.size : Int)) = True := eq_true (by omega)
  have c1 : decide ((S.size : Int) < 3) = false := decide_eq_false (by omega)
  have c2 : ((S.size : Int) < 3) = False := eq_false (by omega)
  have d1 : ((D == 43) : Bool) = false := beq_eq_false_iff_ne.2 h43
  have d2 : ((D == 45) : Bool) = false := beq_eq_false_iff_ne.2 h45
  have HN := Aside0.mk hN
  clear hN hl
  · go_enter Try.func35, Try.ntmps35
    go_wp2_with (first | (go_at_call 40; refine (frisketref04_name.calls k _ _ _ _ _ HN.out).mono ?_; rintro e w3 ⟨rfl, hd3⟩; have h3 := two_of hd3.below; have HB3 := Aside0.mk h3; have k0 := Lib.cell_of_heap h3.2.1 0; have y0 := Lib.frozen_of_heap h3.2.1 0; have r0 := Lib.cell_of_heap h3.1 0; have z0 := Lib.frozen_of_heap h3.1 0; have k1 := Lib.cell_of_heap h3.2.1 1; have y1 := Lib.frozen_of_heap h3.2.1 1; have r1 := Lib.cell_of_heap h3.1 1; have z1 := Lib.frozen_of_heap h3.1 1; have k2 := Lib.cell_of_heap h3.2.1 2; have y2 := Lib.frozen_of_heap h3.2.1 2; have r2 := Lib.cell_of_heap h3.1 2; have z2 := Lib.frozen_of_heap h3.1 2; have k3 := Lib.cell_of_heap h3.2.1 3; have y3 := Lib.frozen_of_heap h3.2.1 3; have r3 := Lib.cell_of_heap h3.1 3; have z3 := Lib.frozen_of_heap h3.1 3; clear h3 hd3))
    go_region
    go_wp2
    refine bodyPost_ret (results_ct rfl _ _ w.heap.size 80 #[.int .u8 110, .string N, .int .i64 0, .int .i64 T] (0, 0) _ rfl (blk_drew (ends HB3.out.1)) Try.underlying80 rfl (by kernel_rfl)) rfl ?_
    exact ⟨rfl, below_drew (ends_below HB3.out.2.2)⟩
set_option maxHeartbeats 8000000 in
set_option maxRecDepth 100000 in
theorem at_short (S : ByteArray) (hl : S.size < 3) (w : World) :
    Calls Try.prog 35 #[.string S] w fun e w' => e = .returned (.tuple #[.agg #[.int .u8 0, .string ⟨#[]⟩, .int .i64 0, .int .i64 0], .bool false]) ∧ Below w.heap.size w w' := by
  have hu80 := Try.underlying80
  have c1 : decide ((S.size : Int) < 3) = true := decide_eq_true (by omega)
  have c2 : ((S.size : Int) < 3) = True := eq_true (by omega)
  clear hl
  · go_enter Try.func35, Try.ntmps35
    go_wp2
    refine bodyPost_ret (results_ct rfl _ _ w.heap.size 80 #[.int .u8 0, .string ⟨#[]⟩, .int .i64 0, .int .i64 0] (0, 0) _ rfl (by first | exact heap_alloc_new _ _ | exact (Lib.alloc_old _ _ _ (by show w.heap.size < (w.heap.push _).size; rw [Array.size_push]; omega)).trans (heap_alloc_new _ _)) Try.underlying80 rfl (by kernel_rfl)) rfl ?_
    exact ⟨rfl, by first | exact below_alloc (Below.refl _ _) _ | exact below_alloc (below_alloc (Below.refl _ _) _) _⟩
set_option maxHeartbeats 8000000 in
set_option maxRecDepth 100000 in
theorem at_first (S : ByteArray) (hl : 3 ≤ S.size) (B : Int) (x0 : ∀ h, ((S[0]'h).toNat : Int) = B) (hB : ¬ B = 92) (w : World) :
    Calls Try.prog 35 #[.string S] w fun e w' => e = .returned (.tuple #[.agg #[.int .u8 0, .string ⟨#[]⟩, .int .i64 0, .int .i64 0], .bool false]) ∧ Below w.heap.size w w' := by
  have hu80 := Try.underlying80
  have p0 : (0 < S.size) = True := eq_true (by omega)
  have p1 : (1 < S.size) = True := eq_true (by omega)
  have q0 : (0 < (S.size : Int)) = True := eq_true (by omega)
  have q1 : (1 < (S.size : Int)) = True := eq_true (by omega)
  have c1 : decide ((S.size : Int) < 3) = false := decide_eq_false (by omega)
  have c2 : ((S.size : Int) < 3) = False := eq_false (by omega)
  have d1 : ((B != 92) : Bool) = true := bne_iff_ne.2 hB
  clear hl hB
  · go_enter Try.func35, Try.ntmps35
    go_wp2
    refine bodyPost_ret (results_ct rfl _ _ w.heap.size 80 #[.int .u8 0, .string ⟨#[]⟩, .int .i64 0, .int .i64 0] (0, 0) _ rfl (by first | exact heap_alloc_new _ _ | exact (Lib.alloc_old _ _ _ (by show w.heap.size < (w.heap.push _).size; rw [Array.size_push]; omega)).trans (heap_alloc_new _ _)) Try.underlying80 rfl (by kernel_rfl)) rfl ?_
    exact ⟨rfl, by first | exact below_alloc (Below.refl _ _) _ | exact below_alloc (below_alloc (Below.refl _ _) _) _⟩
set_option maxHeartbeats 8000000 in
set_option maxRecDepth 100000 in
theorem at_kind (S : ByteArray) (hl : 3 ≤ S.size) (x0 : ∀ h, ((S[0]'h).toNat : Int) = 92) (C : Int) (x1 : ∀ h, ((S[1]'h).toNat : Int) = C) (h1 : ¬ C = 110) (h2 : ¬ C = 42) (h3 : ¬ C = 36) (w : World) :
    Calls Try.prog 35 #[.string S] w fun e w' => e = .returned (.tuple #[.agg #[.int .u8 0, .string ⟨#[]⟩, .int .i64 0, .int .i64 0], .bool false]) ∧ Below w.heap.size w w' := by
  have hu80 := Try.underlying80
  have p0 : (0 < S.size) = True := eq_true (by omega)
  have p1 : (1 < S.size) = True := eq_true (by omega)
  have q0 : (0 < (S.size : Int)) = True := eq_true (by omega)
  have q1 : (1 < (S.size : Int)) = True := eq_true (by omega)
  have c1 : decide ((S.size : Int) < 3) = false := decide_eq_false (by omega)
  have c2 : ((S.size : Int) < 3) = False := eq_false (by omega)
  have d1 : ((C == 110) : Bool) = false := beq_eq_false_iff_ne.2 h1
  have d2 : ((C == 42) : Bool) = false := beq_eq_false_iff_ne.2 h2
  have d4 : ((C != 110) : Bool) = true := bne_iff_ne.2 h1
  have d5 : ((C != 42) : Bool) = true := bne_iff_ne.2 h2
  have d6 : ((C != 36) : Bool) = true := bne_iff_ne.2 h3
  have d3 : ((C == 36) : Bool) = false := beq_eq_false_iff_ne.2 h3
  clear hl h1 h2 h3
  · go_enter Try.func35, Try.ntmps35
    go_wp2
    refine bodyPost_ret (results_ct rfl _ _ w.heap.size 80 #[.int .u8 0, .string ⟨#[]⟩, .int .i64 0, .int .i64 0] (0, 0) _ rfl (by first | exact heap_alloc_new _ _ | exact (Lib.alloc_old _ _ _ (by show w.heap.size < (w.heap.push _).size; rw [Array.size_push]; omega)).trans (heap_alloc_new _ _)) Try.underlying80 rfl (by kernel_rfl)) rfl ?_
    exact ⟨rfl, by first | exact below_alloc (Below.refl _ _) _ | exact below_alloc (below_alloc (Below.refl _ _) _) _⟩
theorem at_esc (s : List UInt8) (hs : s.length < 1000000000) (w : World) : Calls Try.prog 35 #[.string (mkB s)] w (An (esc s) w) := by
  have no : ∀ {e w'}, (e = Ending.returned (.tuple #[.agg #[.int .u8 0, .string ⟨#[]⟩, .int .i64 0, .int .i64 0], .bool false]) ∧ Below w.heap.size w w') → An none w e w' := fun ⟨h1, h2⟩ => ⟨(0, ⟨#[]⟩, 0, 0, false), says_no _ _ _ _, h1, h2⟩
  match s, hs with
  | [], _ => exact (at_short (mkB []) (by rw [size_mkB]; decide) w).mono fun e w' h => no h
  | [a], _ => exact (at_short (mkB [a]) (by rw [size_mkB]; simp) w).mono fun e w' h => no h
  | [a, b], _ => exact (at_short (mkB [a, b]) (by rw [size_mkB]; simp) w).mono fun e w' h => no h
  | b :: c :: d :: r, hs =>
    have hl : 3 ≤ (mkB (b :: c :: d :: r)).size := by rw [size_mkB]; simp only [List.length_cons]; omega
    have hr : r.length < 1000000000 := by simp only [List.length_cons] at hs; omega
    have x0 : ∀ h, (((mkB (b :: c :: d :: r))[0]'h).toNat : Int) = (b.toNat : Int) := fun _ => rfl
    have x1 : ∀ h, (((mkB (b :: c :: d :: r))[1]'h).toNat : Int) = (c.toNat : Int) := fun _ => rfl
    have x2 : ∀ h, (((mkB (b :: c :: d :: r))[2]'h).toNat : Int) = (d.toNat : Int) := fun _ => rfl
    obtain ⟨k2, n2⟩ : ∃ k, frisketref04_name.f k (mkB (b :: c :: d :: r)) 2 = some ((RN (d :: r) 2).1, (RN (d :: r) 2).2) := Evl.out (rname_ev (b :: c :: d :: r) hs 2 (by simp))
    obtain ⟨k3, n3⟩ : ∃ k, frisketref04_name.f k (mkB (b :: c :: d :: r)) 3 = some ((RN r 3).1, (RN r 3).2) := Evl.out (rname_ev (b :: c :: d :: r) hs 3 (by simp))
    have b92 : ((b.toNat : Int) = 92) ↔ b = 92 := b_eq (n := 92) (by decide)
    have c110 : ((c.toNat : Int) = 110) ↔ c = 110 := b_eq (n := 110) (by decide)
    have c42 : ((c.toNat : Int) = 42) ↔ c = 42 := b_eq (n := 42) (by decide)
    have c36 : ((c.toNat : Int) = 36) ↔ c = 36 := b_eq (n := 36) (by decide)
    have d43 : ((d.toNat : Int) = 43) ↔ d = 43 := b_eq (n := 43) (by decide)
    have d45 : ((d.toNat : Int) = 45) ↔ d = 45 := b_eq (n := 45) (by decide)
    rw [esc]
    by_cases hb : b = 92
    · rw [if_pos hb, esc3]
      have x0' : ∀ h, (((mkB (b :: c :: d :: r))[0]'h).toNat : Int) = 92 := fun h => (x0 h).trans (b92.2 hb)
      by_cases h1 : c = 110
      · rw [if_pos h1]
        have x1' : ∀ h, (((mkB (b :: c :: d :: r))[1]'h).toNat : Int) = 110 := fun h => (x1 h).trans (c110.2 h1)
        have hk : (c.toNat : Int) = 110 := c110.2 h1
        by_cases h2 : d = 43
        · rw [if_pos h2]
          refine (at_plus _ _ _ _ n3 hl x0' x1' (fun h => (x2 h).trans (d43.2 h2)) w).mono fun e w' ⟨he, hb⟩ => ⟨_, says_rn c 1 3 r, ?_, hb⟩
          rw [he, hk]
        · rw [if_neg h2]
          by_cases h3 : d = 45
          · rw [if_pos h3]
            refine (at_minus _ _ _ _ n3 hl x0' x1' (fun h => (x2 h).trans (d45.2 h3)) w).mono fun e w' ⟨he, hb⟩ => ⟨_, says_rn c (-1) 3 r, ?_, hb⟩
            rw [he, hk]
          · rw [if_neg h3]
            refine (at_num _ _ (fun e => h2 (d43.1 e)) (fun e => h3 (d45.1 e)) _ _ _ n2 hl x0' x1' x2 w).mono fun e w' ⟨he, hb⟩ => ⟨_, says_rn c 0 2 (d :: r), ?_, hb⟩
            rw [he, hk]
      · rw [if_neg h1]
        by_cases h2 : c = 42 ∨ c = 36
        · rw [if_pos h2]
          refine (at_star _ _ (h2.elim (fun e => Or.inl (c42.2 e)) (fun e => Or.inr (c36.2 e))) _ _ _ n2 hl x0' x1 w).mono fun e w' ⟨he, hb⟩ => ⟨_, says_rn c 0 2 (d :: r), ?_, hb⟩
          rw [he]
        · rw [if_neg h2]
          exact (at_kind _ hl x0' _ x1 (fun e => h1 (c110.1 e)) (fun e => h2 (Or.inl (c42.1 e))) (fun e => h2 (Or.inr (c36.1 e))) w).mono fun e w' h => no h
    · rw [if_neg hb]
      exact (at_first _ hl _ x0 (fun e => hb (b92.1 e)) w).mono fun e w' h => no h
def z5 : Int × ByteArray × Int × Int × Bool := (0, ⟨#[]⟩, 0, 0, false)
def m5 (k : UInt8) (st : Int) (p : ByteArray × Int) : Int × ByteArray × Int × Int × Bool := ((k.toNat : Int), p.1, st, p.2, decide (p.2 > 0))
def atV3 (k c : UInt8) (r : List UInt8) : Int × ByteArray × Int × Int × Bool := if k = 110 then (if c = 43 then m5 k 1 (RN r 3) else if c = 45 then m5 k (-1) (RN r 3) else m5 k 0 (RN (c :: r) 2)) else if k = 42 ∨ k = 36 then m5 k 0 (RN (c :: r) 2) else z5
/-- The five values of At. -/
def atV : List UInt8 → Int × ByteArray × Int × Int × Bool
  | b :: k :: c :: r => if b = 92 then atV3 k c r else z5
  | _ => z5
def Val5 (v : Int × ByteArray × Int × Int × Bool) : Value := .tuple #[.agg #[.int .u8 v.1, .string v.2.1, .int .i64 v.2.2.1, .int .i64 v.2.2.2.1], .bool v.2.2.2.2]
theorem says_m5 (k : UInt8) (st : Int) (base : Nat) (r : List UInt8) : Says (mkE k st base (nm r)) (m5 k st (RN r base)) := says_rn k st base r
theorem z5_says : Says none z5 := says_no _ _ _ _
theorem atV3_says (k c : UInt8) (r : List UInt8) : Says (esc3 k c r) (atV3 k c r) := by
  unfold esc3 atV3
  by_cases h1 : k = 110
  · rw [if_pos h1, if_pos h1]
    by_cases h2 : c = 43
    · rw [if_pos h2, if_pos h2]; exact says_m5 _ _ _ _
    · rw [if_neg h2, if_neg h2]
      by_cases h3 : c = 45
      · rw [if_pos h3, if_pos h3]; exact says_m5 _ _ _ _
      · rw [if_neg h3, if_neg h3]; exact says_m5 _ _ _ _
  · rw [if_neg h1, if_neg h1]
    by_cases h2 : k = 42 ∨ k = 36
    · rw [if_pos h2, if_pos h2]; exact says_m5 _ _ _ _
    · rw [if_neg h2, if_neg h2]; exact z5_says
theorem atV_says : ∀ s : List UInt8, Says (esc s) (atV s)
  | [] => z5_says
  | [_] => z5_says
  | [_, _] => z5_says
  | b :: k :: c :: r => by
    rw [esc, atV]
    by_cases h : b = 92
    · rw [if_pos h, if_pos h]; exact atV3_says k c r
    · rw [if_neg h, if_neg h]; exact z5_says
theorem at_exact (s : List UInt8) (hs : s.length < 1000000000) (w : World) : Calls Try.prog 35 #[.string (mkB s)] w fun e w' => e = .returned (Val5 (atV s)) ∧ Below w.heap.size w w' := by
  have no : ∀ {e w'}, (e = Ending.returned (.tuple #[.agg #[.int .u8 0, .string ⟨#[]⟩, .int .i64 0, .int .i64 0], .bool false]) ∧ Below w.heap.size w w') → (e = Ending.returned (Val5 z5) ∧ Below w.heap.size w w') := fun h => h
  match s, hs with
  | [], _ => exact (at_short (mkB []) (by rw [size_mkB]; decide) w).mono fun e w' h => no h
  | [a], _ => exact (at_short (mkB [a]) (by rw [size_mkB]; simp) w).mono fun e w' h => no h
  | [a, b], _ => exact (at_short (mkB [a, b]) (by rw [size_mkB]; simp) w).mono fun e w' h => no h
  | b :: c :: d :: r, hs =>
    have hl : 3 ≤ (mkB (b :: c :: d :: r)).size := by rw [size_mkB]; simp only [List.length_cons]; omega
    have hr : r.length < 1000000000 := by simp only [List.length_cons] at hs; omega
    have x0 : ∀ h, (((mkB (b :: c :: d :: r))[0]'h).toNat : Int) = (b.toNat : Int) := fun _ => rfl
    have x1 : ∀ h, (((mkB (b :: c :: d :: r))[1]'h).toNat : Int) = (c.toNat : Int) := fun _ => rfl
    have x2 : ∀ h, (((mkB (b :: c :: d :: r))[2]'h).toNat : Int) = (d.toNat : Int) := fun _ => rfl
    obtain ⟨k2, n2⟩ : ∃ k, frisketref04_name.f k (mkB (b :: c :: d :: r)) 2 = some ((RN (d :: r) 2).1, (RN (d :: r) 2).2) := Evl.out (rname_ev (b :: c :: d :: r) hs 2 (by simp))
    obtain ⟨k3, n3⟩ : ∃ k, frisketref04_name.f k (mkB (b :: c :: d :: r)) 3 = some ((RN r 3).1, (RN r 3).2) := Evl.out (rname_ev (b :: c :: d :: r) hs 3 (by simp))
    have b92 : ((b.toNat : Int) = 92) ↔ b = 92 := b_eq (n := 92) (by decide)
    have c110 : ((c.toNat : Int) = 110) ↔ c = 110 := b_eq (n := 110) (by decide)
    have c42 : ((c.toNat : Int) = 42) ↔ c = 42 := b_eq (n := 42) (by decide)
    have c36 : ((c.toNat : Int) = 36) ↔ c = 36 := b_eq (n := 36) (by decide)
    have d43 : ((d.toNat : Int) = 43) ↔ d = 43 := b_eq (n := 43) (by decide)
    have d45 : ((d.toNat : Int) = 45) ↔ d = 45 := b_eq (n := 45) (by decide)
    rw [atV]
    by_cases hb : b = 92
    · rw [if_pos hb, atV3]
      have x0' : ∀ h, (((mkB (b :: c :: d :: r))[0]'h).toNat : Int) = 92 := fun h => (x0 h).trans (b92.2 hb)
      by_cases h1 : c = 110
      · rw [if_pos h1]
        have x1' : ∀ h, (((mkB (b :: c :: d :: r))[1]'h).toNat : Int) = 110 := fun h => (x1 h).trans (c110.2 h1)
        have hk : (c.toNat : Int) = 110 := c110.2 h1
        by_cases h2 : d = 43
        · rw [if_pos h2]
          refine (at_plus _ _ _ _ n3 hl x0' x1' (fun h => (x2 h).trans (d43.2 h2)) w).mono fun e w' ⟨he, hb⟩ => ⟨?_, hb⟩
          (rw [he, ← hk]; try rfl)
        · rw [if_neg h2]
          by_cases h3 : d = 45
          · rw [if_pos h3]
            refine (at_minus _ _ _ _ n3 hl x0' x1' (fun h => (x2 h).trans (d45.2 h3)) w).mono fun e w' ⟨he, hb⟩ => ⟨?_, hb⟩
            (rw [he, ← hk]; try rfl)
          · rw [if_neg h3]
            refine (at_num _ _ (fun e => h2 (d43.1 e)) (fun e => h3 (d45.1 e)) _ _ _ n2 hl x0' x1' x2 w).mono fun e w' ⟨he, hb⟩ => ⟨?_, hb⟩
            (rw [he, ← hk]; try rfl)
      · rw [if_neg h1]
        by_cases h2 : c = 42 ∨ c = 36
        · rw [if_pos h2]
          refine (at_star _ _ (h2.elim (fun e => Or.inl (c42.2 e)) (fun e => Or.inr (c36.2 e))) _ _ _ n2 hl x0' x1 w).mono fun e w' ⟨he, hb⟩ => ⟨?_, hb⟩
          (rw [he]; try rfl)
        · rw [if_neg h2]
          exact (at_kind _ hl x0' _ x1 (fun e => h1 (c110.1 e)) (fun e => h2 (Or.inl (c42.1 e))) (fun e => h2 (Or.inr (c36.1 e))) w).mono fun e w' h => no h
    · rw [if_neg hb]
      exact (at_first _ hl _ x0 (fun e => hb (b92.1 e)) w).mono fun e w' h => no h
end Go.Proofs.Ytpflnhbhgcediaa.Ask4
