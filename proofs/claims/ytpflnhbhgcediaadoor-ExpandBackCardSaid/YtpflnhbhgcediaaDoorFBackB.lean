/- reader.expand in copy mode, of a text whose backslashes are all doubled: half of them go. -/
import Derived.Test.YtpflnhbhgcediaaDoorFBackA
namespace Go.Proofs.YtpflnhbhgcediaaDoor.Back4
open Go.RowKit Go.Proofs.YtpflnhbhgcediaaDoorW.PrintWords Go.Proofs.YtpflnhbhgcediaaDoorW.PrintLast Go.Proofs.YtpflnhbhgcediaaDoorW.PrintMore Go.Proofs.YtpflnhbhgcediaaDoorN Go.Proofs.YtpflnhbhgcediaaDoor.FnVal Go.Proofs.YtpflnhbhgcediaaDoor.QEx Go.Proofs.YtpflnhbhgcediaaDoor.Str
set_option linter.unusedVariables false
set_option linter.unusedSimpArgs false
/-- Each backslash twice. -/
def pr : List UInt8 → List UInt8
  | [] => []
  | c :: l => if c = 92 then 92 :: 92 :: pr l else c :: pr l
theorem pr_plain : ∀ (l q : List UInt8), (∀ c ∈ l, c ≠ 92) → pr (l ++ q) = l ++ pr q
  | [], q, _ => rfl
  | c :: l, q, h => by
    rw [List.cons_append, pr, if_neg (h c (List.mem_cons_self ..)), pr_plain l q (fun d hd => h d (List.mem_cons_of_mem _ hd))]
    rfl
/-- Up to the first backslash. -/
theorem cut92 : ∀ l : List UInt8, (∀ c ∈ l, c ≠ 92) ∨ ∃ a q, l = a ++ 92 :: q ∧ ∀ c ∈ a, c ≠ 92
  | [] => Or.inl (fun c h => by cases h)
  | c :: l => by
    by_cases h : c = 92
    · exact Or.inr ⟨[], l, by rw [h]; rfl, fun c h => by cases h⟩
    · rcases cut92 l with h2 | ⟨a, q, rfl, h2⟩
      · refine Or.inl fun d hd => ?_
        rcases List.mem_cons.1 hd with rfl | hd
        · exact h
        · exact h2 d hd
      · refine Or.inr ⟨c :: a, q, rfl, fun d hd => ?_⟩
        rcases List.mem_cons.1 hd with rfl | hd
        · exact h
        · exact h2 d hd
/-- What stands while the text is read: the builder's bytes; the reader. -/
structure Sb (w : World) (b : Nat) (R : Array Value) (l : List UInt8) (w' : World) : Prop where
  bld : Lib.IsBuilderF 61 5 w.heap.size w.heap.size (Lib.byteCells l) w'
  rdr : w'.heap[b]? = some (.cells R 50 (0, 0))
  bel : Below w.heap.size w w'
  lt : b < w.heap.size
theorem Sb.below {w : World} {b : Nat} {R : Array Value} {l : List UInt8} {w' w2 : World} (h : Sb w b R l w') (hb : Below w'.heap.size w' w2) : Sb w b R l w2 := by
  have hlt := h.lt
  have hs := h.bel.size
  have key : ∀ p, Lib.BuilderAtF 61 5 w.heap.size w.heap.size p (Lib.byteCells l) w' → Lib.BuilderAtF 61 5 w.heap.size w.heap.size p (Lib.byteCells l) w2 := by
    rintro p hp
    have hl := hp.lt
    obtain ⟨hB, v, hv, hown, hne⟩ := hp
    exact ⟨hB, v, (hb.block _ hl).trans hv, hown.kept (row := none) ⟨hb.os, hb.tape, hb.output, hb.size, fun k hk _ => hb.block k hk⟩ (Classical.em _), hne⟩
  exact ⟨h.bld.elim (fun x => .inl (key _ x)) (fun x => .inr (key _ x)), (hb.block b (by omega)).trans h.rdr, below_then h.bel hs hb, hlt⟩
theorem wsb {w : World} {b : Nat} {R : Array Value} {l : List UInt8} {w' : World} (h : Sb w b R l w') (s : ByteArray) (hs : l.length + s.size ≤ 100000) :
    Calls Tryd.prog 32 #[.pointer (some ⟨w.heap.size, 0, none⟩), .string s] w' fun e w2 => e = .returned (.tuple #[.int .i64 s.size, .nilIface]) ∧ Sb w b R (l ++ s.data.toList) w2 := by
  refine (Any.Builder_WriteString_k Lay.l166 Lay.extra w.heap.size w.heap.size (Lib.byteCells l) s w' h.bld (by simp [Lib.byteCells]; omega) h.bel.size).mono ?_
  rintro e w2 ⟨rfl, hb, hbel, hoth⟩
  refine ⟨rfl, ⟨?_, (hbel.block b h.lt).trans h.rdr, h.bel.trans hbel, h.lt⟩⟩
  refine .inr ?_
  have e : Lib.byteCells (l ++ s.data.toList) = Lib.byteCells l ++ Lib.strCells s := by simp [Lib.byteCells, Lib.strCells]
  rw [e]
  exact hb
theorem wbb {w : World} {b : Nat} {R : Array Value} {l : List UInt8} {w' : World} (h : Sb w b R l w') (hs : l.length ≤ 100000) :
    Calls Tryd.prog 38 #[.pointer (some ⟨w.heap.size, 0, none⟩), .int .u8 92] w' fun e w2 => e = .returned .nilIface ∧ Sb w b R (l ++ [92]) w2 := by
  refine (Any.Builder_WriteByte_k Lay.l167 Lay.extra167 w.heap.size w.heap.size (Lib.byteCells l) 92 w' h.bld (by simp [Lib.byteCells]; omega) h.bel.size).mono ?_
  rintro e w2 ⟨rfl, hb, hbel, hoth⟩
  refine ⟨rfl, ⟨?_, (hbel.block b h.lt).trans h.rdr, h.bel.trans hbel, h.lt⟩⟩
  refine .inr ?_
  have e : Lib.byteCells (l ++ [92]) = Lib.byteCells l ++ [Value.int .u8 92] := by simp [Lib.byteCells]
  rw [e]
  exact hb
theorem stb {w : World} {b : Nat} {R : Array Value} {l : List UInt8} {w' : World} (h : Sb w b R l w') :
    Calls Tryd.prog 37 #[.pointer (some ⟨w.heap.size, 0, none⟩)] w' fun e w2 => e = .returned (.string (mkB l)) ∧ Below w.heap.size w w2 := by
  refine (Any.Builder_String_any_k Lay.l169 Lay.extra169 w.heap.size w.heap.size l w' h.bld h.bel.size).mono ?_
  rintro e w2 ⟨rfl, _, hbel, _⟩
  exact ⟨rfl, h.bel.trans hbel⟩
theorem ib_any (s : ByteArray) (i : Int) (h : Lib.indexByte s.data.toList 92 = i) (w : World) : Calls Tryd.prog 31 #[.string s, .int .u8 92] w fun e w' => e = .returned (.int .i64 i) ∧ w' = w := by
  refine (Any.strings_IndexByte Lay.l137 s 92 w).mono ?_
  rintro e w' ⟨rfl, rfl⟩
  refine ⟨?_, rfl⟩
  rw [← h]
  rfl
theorem ix_none : ∀ l : List UInt8, (∀ c ∈ l, c ≠ 92) → Lib.indexByte l 92 = -1
  | [], _ => rfl
  | c :: l, h => by
    have ih := ix_none l (fun d hd => h d (List.mem_cons_of_mem _ hd))
    rw [Lib.indexByte, ih]
    simp [h c (List.mem_cons_self ..)]
theorem ix_some : ∀ (a q : List UInt8), (∀ c ∈ a, c ≠ 92) → Lib.indexByte (a ++ 92 :: q) 92 = (a.length : Int)
  | [], q, _ => by
    rw [List.nil_append, Lib.indexByte]
    simp
  | c :: a, q, h => by
    have ih := ix_some a q (fun d hd => h d (List.mem_cons_of_mem _ hd))
    rw [List.cons_append, Lib.indexByte, ih, List.length_cons]
    simp [h c (List.mem_cons_self ..)]
    try omega
set_option maxHeartbeats 8000000 in
set_option maxRecDepth 100000 in
theorem expand_back (l0 : List UInt8) (hl0 : l0.length ≤ 2000) (fv : Value) (w : World) (b : Nat) (hb : w.heap[b]? = some (.cells #[fv, .bool true, .int .i64 0] 50 (0, 0))) :
    Calls Tryd.prog 20 #[.pointer (some ⟨b, 0, none⟩), .string (mkB (pr l0))] w fun e w' => e = .returned (.string (mkB l0)) ∧ Below w.heap.size w w' := by
  have HB := Aside0.mk hb
  have HLT := Aside0.mk (show b < w.heap.size from (Array.getElem?_eq_some_iff.1 hb).1)
  have HL := Aside0.mk hl0
  clear hb hl0
  go_enter Tryd.func20, Tryd.ntmps20
  go_wp2
  go_loopg [1] (l0.length + 1) (fun kq v1 w' => ∃ (d r : List UInt8), Aside0 (d ++ r = l0 ∧ kq = r.length + 1) ∧ v1 = .string (mkB (pr r)) ∧ Aside0 (Sb w b #[fv, .bool true, .int .i64 0] d w'))
  case atStart => exact ⟨[], l0, ⟨rfl, rfl⟩, rfl, ⟨⟨Lib.IsBuilderF.of (Lib.fresh_isBuilder 61 5 w), (heap_alloc_old _ _ HLT.out).trans HB.out, below_alloc (Below.refl _ _) _, HLT.out⟩⟩⟩
  case round =>
    obtain ⟨d, r, H1, rfl, HS⟩ := hrel
    rcases cut92 r with hc | ⟨a, q, rfl, hc⟩
    · have hp : pr r = r := by have := pr_plain r [] hc; rwa [List.append_nil, pr, List.append_nil] at this
      have hd : d ++ r = l0 := H1.out.1
      rw [hp]
      obtain ⟨s, hs⟩ : ∃ s, mkB r = s := ⟨_, rfl⟩
      have hi := ix_none r hc
      have HI := Aside0.mk (show Lib.indexByte s.data.toList 92 = -1 by rw [← hs, data_mkB]; exact hi)
      have HD := Aside0.mk hd
      have HS2 := Aside0.mk hs
      clear hc hp hi hd
      rw [hs]
      clear hs
      by_cases he : s.toList.isEmpty = true
      · have hr0 : r = [] := by
          rw [← HS2.out, toList_mkB] at he
          simpa using he
        have hd0 : d = l0 := by
          have := HD.out
          rw [hr0, List.append_nil] at this
          exact this
        have HD0 := Aside0.mk hd0
        clear hr0 hd0
        go_wp2_with (first | (go_at_call 37; refine (stb HS.out).mono ?_; rintro e w4 ⟨rfl, hb4⟩; have HB4 := Aside0.mk hb4; clear hb4))
        refine bodyPost_ret (results_tmp rfl _ _ _) rfl ?_
        exact ⟨congrArg (fun l => Ending.returned (.string (mkB l))) HD0.out, HB4.out⟩
      · have he2 : s.toList.isEmpty = false := Bool.eq_false_iff.2 he
        clear he
        go_wp2_with (first | (go_at_call 31; refine (ib_any _ (-1) HI.out _).mono ?_; rintro e w2 ⟨rfl, rfl⟩))
        go_wp2_with (first | (go_at_call 32; refine (wsb HS.out s (by rw [← HS2.out, size_mkB]; have := congrArg List.length HD.out; have := HL.out; rw [List.length_append] at *; omega)).mono ?_; rintro e w3 ⟨rfl, hs3⟩; have HS3 := Aside0.mk hs3; clear hs3))
        go_wp2_with (first | (go_at_call 37; refine (stb HS3.out).mono ?_; rintro e w4 ⟨rfl, hb4⟩; have HB4 := Aside0.mk hb4; clear hb4))
        refine bodyPost_ret (results_tmp rfl _ _ _) rfl ?_
        exact ⟨congrArg (fun l => Ending.returned (.string (mkB l))) (by rw [← HS2.out, data_mkB]; exact HD.out), HB4.out⟩
    · have hp : pr (a ++ 92 :: q) = a ++ 92 :: 92 :: pr q := by rw [pr_plain a _ hc, pr, if_pos rfl]
      rw [hp]
      obtain ⟨s, hs⟩ : ∃ s, mkB (a ++ 92 :: 92 :: pr q) = s := ⟨_, rfl⟩
      obtain ⟨S2, hs2⟩ : ∃ s, mkB (92 :: 92 :: pr q) = s := ⟨_, rfl⟩
      obtain ⟨A, hA⟩ : ∃ s, mkB a = s := ⟨_, rfl⟩
      obtain ⟨n, hn⟩ : ∃ n, a.length = n := ⟨_, rfl⟩
      have HI := Aside0.mk (show Lib.indexByte s.data.toList 92 = (n : Int) by rw [← hs, data_mkB, ← hn]; exact ix_some a _ hc)
      have HD := Aside0.mk H1.out.1
      have HK := Aside0.mk H1.out.2
      have HA := Aside0.mk hA
      have HZ := Aside0.mk (show n + S2.size = s.size by rw [← hs, ← hs2, size_mkB, size_mkB, List.length_append, hn])
      have HZ2 := Aside0.mk (show 2 ≤ S2.size by rw [← hs2, size_mkB, List.length_cons, List.length_cons]; omega)
      have he2 : s.toList.isEmpty = false := by rw [← hs, toList_mkB]; cases a <;> rfl
      have g1 : s.extract 0 n = A := by rw [← hs, ← hA, extract_mkB, List.drop_zero, ← hn, List.take_left]
      have g2 : s.extract n s.size = S2 := by rw [← hs, ← hs2, extract_mkB, size_mkB, List.take_length, ← hn, List.drop_left]
      have g3 : S2.extract 2 S2.size = mkB (pr q) := by rw [← hs2, extract_mkB, size_mkB, List.take_length]; rfl
      have x0 : ∀ h, ((S2[0]'h).toNat : Int) = 92 := by rw [← hs2]; exact fun _ => rfl
      have x1 : ∀ h, ((S2[1]'h).toNat : Int) = 92 := by rw [← hs2]; exact fun _ => rfl
      have t1 : decide ((n : Int) < 0) = false := decide_eq_false (by omega)
      have t2 : ((n : Int) < 0) = False := eq_false (by omega)
      have t3 : ((n : Int) ≤ (s.size : Int)) = True := eq_true (by have := HZ.out; omega)
      have t4 : (n ≤ s.size) = True := eq_true (by have := HZ.out; omega)
      have t5 : decide (1 < (S2.size : Int)) = true := decide_eq_true (by have := HZ2.out; omega)
      have t6 : (1 < (S2.size : Int)) = True := eq_true (by have := HZ2.out; omega)
      have t7 : (1 < S2.size) = True := eq_true (by have := HZ2.out; omega)
      have t8 : ((S2.size : Int) == 1) = false := beq_eq_false_iff_ne.2 (by have := HZ2.out; omega)
      have t9 : (2 ≤ S2.size) = True := eq_true (by have := HZ2.out; omega)
      have t10 : (2 ≤ (S2.size : Int)) = True := eq_true (by have := HZ2.out; omega)
      have HX0 := Aside0.mk x0
      have HX1 := Aside0.mk x1
      clear hc hp H1 hs2 hA hn
      rw [hs]
      clear hs
      go_wp2_with (first | (go_at_call 31; refine (ib_any _ n HI.out _).mono ?_; rintro e w2 ⟨rfl, rfl⟩))
      go_wp2_with (first | (go_at_call 32; refine (wsb HS.out A (by rw [← HA.out, size_mkB]; have := congrArg List.length HD.out; have := HL.out; rw [List.length_append, List.length_append] at *; omega)).mono ?_; rintro e w3 ⟨rfl, hs3⟩; have HS3 := Aside0.mk hs3; clear hs3))
      go_wp2_with (first | (go_at_call 33; refine (asks_no S2 HZ2.out HX0.out HX1.out _).mono ?_; rintro e w4 ⟨rfl, hb4⟩; have HS4 := Aside0.mk (HS3.out.below hb4); clear hb4))
      go_wp2_with (first | (go_at_call 36; refine (width_no S2 HZ2.out HX0.out HX1.out _).mono ?_; rintro e w5 ⟨rfl, hb5⟩; have HS5 := Aside0.mk ((HS4.out.below (below_alloc (Below.refl _ _) _)).below hb5); have c1 := Lib.cell_of_heap HS5.out.rdr 1; clear hb5))
      go_wp2_with (first | (go_at_call 31; refine (ib_any ⟨#[110, 42, 36]⟩ (-1) (by decide) _).mono ?_; rintro e w6 ⟨rfl, rfl⟩) | (go_at_call 38; refine (wbb HS5.out (by rw [← HA.out, data_mkB]; have := congrArg List.length HD.out; have := HL.out; rw [List.length_append, List.length_append] at *; omega)).mono ?_; rintro e w7 ⟨rfl, hs7⟩; have HS7 := Aside0.mk hs7; clear hs7))
      go_roundg (q.length + 1)
      case measure => have := HK.out; rw [List.length_append, List.length_cons] at this; omega
      case rel => exact ⟨d ++ A.data.toList ++ [92], q, ⟨by rw [← HA.out, data_mkB, List.append_assoc, List.append_assoc]; exact HD.out, rfl⟩, rfl, HS7⟩
end Go.Proofs.YtpflnhbhgcediaaDoor.Back4
