/- The fixed example of the laws: Expand of "a\nxb", whoever is asked answering "3", is "a3b". -/
import Derived.Test.YtpflnhbhgcediaaFExEx
import Derived.Test.YtpflnhbhgcediaaFnVal
import Derived.Test.YtpflnhbhgcediaaNum
import Derived.Defers
import Derived.Recover
namespace Go.Proofs.Ytpflnhbhgcediaa.Sane4
open Go.RowKit Go.Proofs.YtpflnhbhgcediaaW.PrintWords Go.Proofs.YtpflnhbhgcediaaW.PrintLast Go.Proofs.YtpflnhbhgcediaaW.PrintMore Go.Proofs.YtpflnhbhgcediaaN Go.Proofs.Ytpflnhbhgcediaa.FnVal Go.Proofs.Ytpflnhbhgcediaa.QEx
set_option linter.unusedVariables false
set_option linter.unusedSimpArgs false
/-- The reader: whom it asks, copy mode, how often it has asked. -/
def rd4 (n : Int) : Array Value := #[.func (.func 15) #[] #[], .bool false, .int .i64 n]
set_option maxHeartbeats 2000000 in
set_option maxRecDepth 100000 in
theorem ask_calls (w : World) (b : Nat) (hb : w.heap[b]? = some (.cells (rd4 0) 51 (0, 0))) :
    Calls Try.prog 29 #[.pointer (some ⟨b, 0, none⟩), .int .u8 110, .string ⟨#[120]⟩, .int .i64 0] w fun e w' => e = .returned (.string ⟨#[51]⟩) ∧ w' = w.setCell ⟨b, 2, none⟩ (.int .i64 1) := by
  have h0 : w.cell? ⟨b, 0, none⟩ = some (.func (.func 15) #[] #[]) := Lib.cell_of_heap hb 0
  have h2 : w.cell? ⟨b, 2, none⟩ = some (.int .i64 0) := Lib.cell_of_heap hb 2
  have z2 : w.frozen? ⟨b, 2, none⟩ = false := Lib.frozen_of_heap hb 2
  have HB := Aside0.mk hb
  clear hb
  go_enter Try.func29, Try.ntmps29
  go_wp2
  refine bodyPost_ret (results_tmp rfl _ _ _) rfl ?_
  exact ⟨rfl, rfl⟩
set_option maxHeartbeats 4000000 in
set_option maxRecDepth 100000 in
theorem asks_calls (w : World) : Calls Try.prog 28 #[.string ⟨#[92, 110, 120, 98]⟩] w fun e w' => e = .returned (.tuple #[.agg #[.int .u8 110, .string ⟨#[120]⟩, .int .i64 0, .int .i64 3], .bool true]) ∧ Below w.heap.size w w' := by
  have hu58 := Try.underlying58
  have x0 : ∀ h, (((⟨#[92, 110, 120, 98]⟩ : ByteArray)[0]'h).toNat : Int) = 92 := fun _ => rfl
  have x1 : ∀ h, (((⟨#[92, 110, 120, 98]⟩ : ByteArray)[1]'h).toNat : Int) = 110 := fun _ => rfl
  have x2 : ∀ h, (((⟨#[92, 110, 120, 98]⟩ : ByteArray)[2]'h).toNat : Int) = 120 := fun _ => rfl
  have x3 : (⟨#[92, 110, 120, 98]⟩ : ByteArray).extract 2 4 = ⟨#[120, 98]⟩ := by decide
  have x4 : ∀ h, (((⟨#[120, 98]⟩ : ByteArray)[0]'h).toNat : Int) = 120 := fun _ => rfl
  have x5 : (⟨#[120, 98]⟩ : ByteArray).extract 0 1 = ⟨#[120]⟩ := by decide
  have x6 : (⟨#[120, 98]⟩ : ByteArray).toList.isEmpty = false := by rw [Lib.toList_data]; rfl
  have x7 : ((⟨#[92, 110, 120, 98]⟩ : ByteArray).extract 2 4).toList.isEmpty = false := by rw [x3]; exact x6
  go_enter Try.func28, Try.ntmps28
  go_wp2
  refine bodyPost_ret (results_ct rfl _ _ w.heap.size 58 #[.int .u8 110, .string ⟨#[120]⟩, .int .i64 0, .int .i64 3] (0, 0) _ rfl ((Lib.alloc_old _ _ _ (by show w.heap.size < (w.heap.push _).size; rw [Array.size_push]; omega)).trans (heap_alloc_new _ _)) Try.underlying58 rfl (by kernel_rfl)) rfl ?_
  exact ⟨rfl, below_alloc (below_alloc (Below.refl _ _) _) _⟩
/-- What stands while the text is read: the builder's bytes, how often was asked. -/
structure St (w : World) (b : Nat) (l : List UInt8) (n : Int) (w' : World) : Prop where
  bld : Lib.IsBuilderF 66 5 w.heap.size w.heap.size (Lib.byteCells l) w'
  rdr : w'.heap[b]? = some (.cells (rd4 n) 51 (0, 0))
  bel : Below b w w'
  siz : w.heap.size ≤ w'.heap.size
  lt : b < w.heap.size
theorem St.put {w : World} {b : Nat} {l : List UInt8} {n m : Int} {w' w2 : World} (h : St w b l n w') (h1 : w2.os = w'.os) (h2 : w2.tape = w'.tape) (h3 : w2.output = w'.output) (h4 : w'.heap.size ≤ w2.heap.size)
    (h5 : ∀ k, k < w'.heap.size → k ≠ b → w2.heap[k]? = w'.heap[k]?) (h6 : w2.heap[b]? = some (.cells (rd4 m) 51 (0, 0))) : St w b l m w2 := by
  have hlt := h.lt
  have hs := h.siz
  have key : ∀ p, Lib.BuilderAtF 66 5 w.heap.size w.heap.size p (Lib.byteCells l) w' → Lib.BuilderAtF 66 5 w.heap.size w.heap.size p (Lib.byteCells l) w2 := by
    rintro p hp
    have hl := hp.lt
    obtain ⟨hB, v, hv, hown, hne⟩ := hp
    exact ⟨hB, v, (h5 _ hl (by omega)).trans hv, hown.kept (row := some b) ⟨h1, h2, h3, h4, fun k hk hkb => h5 k hk (fun e => hkb (by rw [e]))⟩ (Or.inr (Lib.ownBlock_neF hown h.rdr (by decide))), hne⟩
  exact ⟨h.bld.elim (fun x => .inl (key _ x)) (fun x => .inr (key _ x)), h6, ⟨h1.trans h.bel.os, h2.trans h.bel.tape, h3.trans h.bel.output, Nat.le_trans h.bel.size h4, fun k hk => (h5 k (by omega) (by omega)).trans (h.bel.block k hk)⟩, Nat.le_trans hs h4, hlt⟩
theorem St.below {w : World} {b : Nat} {l : List UInt8} {n : Int} {w' w2 : World} (h : St w b l n w') (hb : Below w'.heap.size w' w2) : St w b l n w2 :=
  h.put hb.os hb.tape hb.output hb.size (fun k hk _ => hb.block k hk) ((hb.block b (by have := h.lt; have := h.siz; omega)).trans h.rdr)
theorem St.asked {w : World} {b : Nat} {l : List UInt8} {w' : World} (h : St w b l 0 w') : St w b l 1 (w'.setCell ⟨b, 2, none⟩ (.int .i64 1)) :=
  h.put rfl rfl rfl (by simp [World.setCell]) (fun k _ hk => Below.heap_setCell _ _ _ _ (fun e => hk (by first | exact e | exact e.symm))) (by simp [World.setCell, Array.getElem?_modify, h.rdr, rd4])
theorem ws_calls {w : World} {b : Nat} {l : List UInt8} {n : Int} {w' : World} (h : St w b l n w') (s : List UInt8) (hs : l.length + s.length ≤ 1000) :
    Calls Try.prog 27 #[.pointer (some ⟨w.heap.size, 0, none⟩), .string ⟨s.toArray⟩] w' fun e w2 => e = .returned (.tuple #[.int .i64 s.length, .nilIface]) ∧ St w b (l ++ s) n w2 ∧ Lib.OthersKept 5 (some w.heap.size) w' w2 := by
  have hsz : (⟨s.toArray⟩ : ByteArray).size = s.length := by simp [ByteArray.size]
  refine (Any.Builder_WriteString_k Lay.l166 Lay.extra w.heap.size w.heap.size (Lib.byteCells l) ⟨s.toArray⟩ w' h.bld (by rw [hsz]; simp [Lib.byteCells]; omega) h.siz).mono ?_
  rintro e w2 ⟨rfl, hb, hbel, hoth⟩
  have hl := h.lt
  refine ⟨by rw [hsz], ⟨?_, (hbel.block b hl).trans h.rdr, ⟨hbel.os.trans h.bel.os, hbel.tape.trans h.bel.tape, hbel.output.trans h.bel.output, Nat.le_trans h.bel.size hbel.size, fun k hk => (hbel.block k (by omega)).trans (h.bel.block k hk)⟩, Nat.le_trans h.siz hbel.size, hl⟩, hoth⟩
  refine .inr ?_
  have e : Lib.byteCells (l ++ s) = Lib.byteCells l ++ Lib.strCells ⟨s.toArray⟩ := by simp [Lib.byteCells, Lib.strCells]
  rw [e]
  exact hb
theorem len_calls {w : World} {b : Nat} {l : List UInt8} {n : Int} {w' : World} (h : St w b l n w') :
    Calls Try.prog 30 #[.pointer (some ⟨w.heap.size, 0, none⟩)] w' fun e w2 => e = .returned (.int .i64 l.length) ∧ w2 = w' := by
  refine (Any.Builder_Len_f Lay.l170 w.heap.size w.heap.size (Lib.byteCells l) w' h.bld).mono ?_
  rintro e w2 ⟨rfl, rfl⟩
  exact ⟨by simp [Lib.byteCells], rfl⟩
theorem str_calls {w : World} {b : Nat} {l : List UInt8} {n : Int} {w' : World} (h : St w b l n w') :
    Calls Try.prog 32 #[.pointer (some ⟨w.heap.size, 0, none⟩)] w' fun e w2 => e = .returned (.string ⟨l.toArray⟩) ∧ Below b w w2 := by
  refine (Any.Builder_String_any_k Lay.l169 Lay.extra169 w.heap.size w.heap.size l w' h.bld h.siz).mono ?_
  rintro e w2 ⟨rfl, _, hbel, _⟩
  have hl := h.lt
  exact ⟨rfl, hbel.os.trans h.bel.os, hbel.tape.trans h.bel.tape, hbel.output.trans h.bel.output, Nat.le_trans h.bel.size hbel.size, fun k hk => (hbel.block k (by omega)).trans (h.bel.block k hk)⟩
theorem ib_calls (l : List UInt8) (i : Int) (h : Lib.indexByte l 92 = i) (w : World) : Calls Try.prog 26 #[.string ⟨l.toArray⟩, .int .u8 92] w fun e w' => e = .returned (.int .i64 i) ∧ w' = w := by
  refine (Any.strings_IndexByte Lay.l137 ⟨l.toArray⟩ 92 w).mono ?_
  rintro e w' ⟨rfl, rfl⟩
  refine ⟨?_, rfl⟩
  rw [← h]
  rfl
theorem St.bl_lt {w : World} {b : Nat} {l : List UInt8} {n : Int} {w' : World} (h : St w b l n w') : w.heap.size < w'.heap.size := h.bld.elim (fun x => x.lt) (fun x => x.lt)
/-- What reading an escape has found, in a block of its own. -/
def cl4 : Array Value := #[.int .u8 110, .string ⟨#[120]⟩, .int .i64 0, .int .i64 3]
theorem after_ask {w : World} {b : Nat} {l : List UInt8} {w4 w6 : World} (h : St w b l 0 w4) (hw : w6 = (w4.alloc (.cells cl4 58)).setCell ⟨b, 2, none⟩ (.int .i64 1)) : St w b l 1 w6 ∧ w6.heap[w4.heap.size]? = some (.cells cl4 58) := by
  subst hw
  refine ⟨(h.below ((Below.refl _ _).alloc (Nat.le_refl _) _)).asked, ?_⟩
  have := h.lt
  have := h.siz
  exact (Below.heap_setCell _ _ _ _ (by first | (show ¬ b = w4.heap.size; omega) | (show ¬ w4.heap.size = b; omega))).trans (heap_alloc_new _ _)
theorem after_ws {w : World} {b : Nat} {l : List UInt8} {n : Int} {w4 w6 w7 : World} (h : St w b l n w4) (hg : w6.heap[w4.heap.size]? = some (.cells cl4 58)) (ho : Lib.OthersKept 5 (some w.heap.size) w6 w7) : w7.heap[w4.heap.size]? = some (.cells cl4 58) := by
  have := h.bl_lt
  exact ho _ _ hg (fun e => by injection e with e; omega) (fun c fz e => by injection e with _ e _; exact absurd e (by decide))
set_option maxHeartbeats 8000000 in
set_option maxRecDepth 100000 in
theorem expand_calls (w : World) (b : Nat) (hb : w.heap[b]? = some (.cells (rd4 0) 51 (0, 0))) :
    Calls Try.prog 20 #[.pointer (some ⟨b, 0, none⟩), .string ⟨#[97, 92, 110, 120, 98]⟩] w fun e w' => e = .returned (.string ⟨#[97, 51, 98]⟩) ∧ Below b w w' := by
  have HB := Aside0.mk hb
  have HLT := Aside0.mk (show b < w.heap.size from (Array.getElem?_eq_some_iff.1 hb).1)
  clear hb
  have e0 : (⟨#[97, 92, 110, 120, 98]⟩ : ByteArray).extract 0 1 = ⟨#[97]⟩ := by decide
  have e1 : (⟨#[97, 92, 110, 120, 98]⟩ : ByteArray).extract 1 5 = ⟨#[92, 110, 120, 98]⟩ := by decide
  have e2 : (⟨#[92, 110, 120, 98]⟩ : ByteArray).extract 3 4 = ⟨#[98]⟩ := by decide
  have e3 : (⟨#[]⟩ : ByteArray) ++ ⟨#[98]⟩ = ⟨#[98]⟩ := by decide
  go_enter Try.func20, Try.ntmps20
  go_wp2
  go_loopg [1] 2 (fun kq v1 w' => (Aside0 (kq = 2) ∧ v1 = .string ⟨#[97, 92, 110, 120, 98]⟩ ∧ Aside0 (St w b [] 0 w')) ∨ (Aside0 (kq = 1) ∧ v1 = .string ⟨#[98]⟩ ∧ Aside0 (St w b [97, 51] 1 w')))
  case atStart => exact Or.inl ⟨⟨rfl⟩, rfl, ⟨⟨Lib.IsBuilderF.of (Lib.fresh_isBuilder 66 5 w), (heap_alloc_old _ _ HLT.out).trans HB.out, (Below.refl _ _).alloc (Nat.le_of_lt HLT.out) _, by show w.heap.size ≤ (w.heap.push _).size; rw [Array.size_push]; omega, HLT.out⟩⟩⟩
  case round =>
    rcases hrel with ⟨⟨rfl⟩, rfl, HS⟩ | ⟨⟨rfl⟩, rfl, HS⟩
    · go_wp2_with (first | (go_at_call 26; refine (ib_calls [97, 92, 110, 120, 98] 1 (by decide) _).mono ?_; rintro e w2 ⟨rfl, rfl⟩))
      go_wp2_with (first | (go_at_call 27; refine (ws_calls HS.out [97] (by decide)).mono ?_; rintro e w3 ⟨rfl, hs3, _⟩; have HS3 := Aside0.mk hs3; clear hs3))
      go_wp2_with (first | (go_at_call 28; refine (asks_calls _).mono ?_; rintro e w4 ⟨rfl, hb4⟩; have HS4 := Aside0.mk (HS3.out.below hb4); clear hb4))
      go_wp2_with (first | (go_at_call 29; refine (ask_calls _ b (HS4.out.below ((Below.refl _ _).alloc (Nat.le_refl _) _)).rdr).mono ?_; rintro e w6 ⟨rfl, hw6⟩; have h6 := after_ask HS4.out hw6; have HS6 := Aside0.mk h6.1; have HG6 := Aside0.mk h6.2; have g60 := Lib.cell_of_heap h6.2 0; have g63 := Lib.cell_of_heap h6.2 3; clear hw6 h6; simp only [cl4] at g60 g63))
      go_wp2_with (first | (go_at_call 27; refine (ws_calls HS6.out [51] (by decide)).mono ?_; rintro e w7 ⟨rfl, hs7, ho7⟩; have HS7 := Aside0.mk hs7; have hg7 := after_ws HS4.out HG6.out ho7; have g73 := Lib.cell_of_heap hg7 3; clear hs7 ho7 hg7; simp only [cl4] at g73))
      go_wp2_with (first | (go_at_call 30; refine (len_calls HS7.out).mono ?_; rintro e w8 ⟨rfl, rfl⟩))
      go_roundg 1
      case measure => omega
      case rel => exact Or.inr ⟨⟨rfl⟩, rfl, HS7⟩
    · go_wp2_with (first | (go_at_call 26; refine (ib_calls [98] (-1) (by decide) _).mono ?_; rintro e w2 ⟨rfl, rfl⟩))
      go_wp2_with (first | (go_at_call 27; refine (ws_calls HS.out [98] (by decide)).mono ?_; rintro e w3 ⟨rfl, hs3, _⟩; have HS3 := Aside0.mk hs3; clear hs3))
      go_wp2_with (first | (go_at_call 32; refine (str_calls HS3.out).mono ?_; rintro e w4 ⟨rfl, hb4⟩; have HB4 := Aside0.mk hb4; clear hb4))
      refine bodyPost_ret (results_tmp rfl _ _ _) rfl ?_
      exact ⟨rfl, HB4.out⟩
end Go.Proofs.Ytpflnhbhgcediaa.Sane4
