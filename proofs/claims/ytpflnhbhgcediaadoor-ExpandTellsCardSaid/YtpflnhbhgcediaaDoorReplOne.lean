-- Words of the kit's print, shortened by a program of this session to what this claim uses.

import Derived.Shelf.Strings.Replace
namespace Go.Proofs.YtpflnhbhgcediaaDoor.ReplOne
open Go.Shelf Go.RowKit Go.Lib Go.Proofs
variable {P : Program} {ρ : Ren}
set_option linter.unusedVariables false
def rep (c : UInt8) (nw : List UInt8) : List UInt8 → List UInt8
  | [] => []
  | b :: l => (if b == c then nw else [b]) ++ rep c nw l
theorem rep_append (c : UInt8) (nw : List UInt8) : ∀ a b : List UInt8, rep c nw (a ++ b) = rep c nw a ++ rep c nw b
  | [], b => rfl
  | x :: a, b => by rw [List.cons_append, rep, rep, rep_append c nw a b, List.append_assoc]
theorem rep_none (c : UInt8) (nw : List UInt8) : ∀ l : List UInt8, l.count c = 0 → rep c nw l = l
  | [], _ => rfl
  | b :: l, h => by
    rw [List.count_cons] at h
    have hb : (b == c) = false := by
      cases e : b == c with
      | false => rfl
      | true => rw [e] at h; simp at h
    rw [rep, hb, rep_none c nw l (by omega)]
    rfl
theorem first (c : UInt8) : ∀ l : List UInt8, l.count c ≠ 0 → ∃ u v, l = u ++ c :: v ∧ indexByte l c = (u.length : Int) ∧ u.count c = 0 ∧ v.count c + 1 = l.count c
  | [], h => absurd rfl h
  | b :: l, h => by
    cases e : b == c with
    | true =>
      obtain rfl : b = c := by simpa using e
      exact ⟨[], l, rfl, by simp [indexByte], rfl, by simp⟩
    | false =>
      have hc : (b :: l).count c = l.count c := by rw [List.count_cons, e]; rfl
      obtain ⟨u, v, h1, h2, h3, h4⟩ := first c l (by rw [hc] at h; exact h)
      refine ⟨b :: u, v, by rw [h1]; rfl, ?_, by rw [List.count_cons, e, h3]; rfl, by rw [hc]; exact h4⟩
      rw [indexByte, e, h2]
      simp only [Bool.false_eq_true, if_false, List.length_cons]
      rw [if_neg (fun e => by have := beq_iff_eq.1 e; omega)]
      omega
set_option maxHeartbeats 16000000 in
set_option maxRecDepth 1000000 in
theorem replace_some (L : Lays.n154 P ρ) (X : Builder.Extra P ρ) (s nw : ByteArray) (c : UInt8) (w : World) (hne : (⟨#[c]⟩ : ByteArray) ≠ nw) (hs : s.size < 4294967281) (hc0 : s.data.toList.count c ≠ 0) (hlen : s.size + s.size * nw.size ≤ 140737488355328) :
    Calls P (ρ.f 154) #[.string s, .string ⟨#[c]⟩, .string nw, .int .i64 (-1)] w fun e w' => e = .returned (.string ⟨(rep c nw.data.toList s.data.toList).toArray⟩) ∧ Below w.heap.size w w' := by
  have hC : Calls P (ρ.f 138) #[.string s, .string ⟨#[c]⟩] w fun e w' => e = .returned (.int .i64 ((s.data.toList.count c : Nat) : Int)) ∧ w' = w := Any.strings_Count_one { L with } s c w
  obtain ⟨K, hK⟩ : ∃ K : Nat, s.data.toList.count c = K := ⟨_, rfl⟩
  have hlenL : s.data.toList.length = s.size := (Lib.size_eq s).symm
  have hlenN : nw.data.toList.length = nw.size := (Lib.size_eq nw).symm
  have hKs : K ≤ s.size := by rw [← hK, ← hlenL]; exact List.count_le_length
  rw [hK] at hC hc0
  have hmul : K * nw.size ≤ s.size * nw.size := Nat.mul_le_mul_right _ hKs
  have hbeq : ((⟨#[c]⟩ : ByteArray).toList == nw.toList) = false := (Lib.bytes_beq_false_iff _ nw).2 hne
  have hcz : ((K : Int) == 0) = false := beq_eq_false_iff_ne.2 (by omega)
  have hga : wrap64 ((s.size : Int) + wrap64 ((K : Int) * wrap64 ((nw.size : Int) - 1))) = ((s.size + K * nw.size - K * 1 : Nat) : Int) := Lib.grow_arg s.size K nw.size 1 (by omega) (by omega) (by omega)
  obtain ⟨T, hT⟩ : ∃ T, rep c nw.data.toList s.data.toList = T := ⟨_, rfl⟩
  rw [hT]
  have H0 := Any.hidR (show ([] : List UInt8) ++ rep c nw.data.toList (s.data.toList.drop 0) = T from hT)
  have hcnt0 : (s.data.toList.drop 0).count c = K := hK
  clear hK hT
  have hod : decide (0 < (⟨#[c]⟩ : ByteArray).size) = true := rfl
  have mixed := L.mixed
  have t72 := L.t72; have a72 := L.a72; have z72 := L.z72; have v72 := L.v72; have u72 := run_underlying L.t72
  have t70 := L.t70; have a70 := L.a70; have z70 := L.z70; have v70 := L.v70; have u70 := run_underlying L.t70
  have t37 := L.t37; have a37 := L.a37; have z37 := L.z37; have v37 := L.v37; have u37 := run_underlying L.t37
  have t3 := L.t3; have a3 := L.a3; have z3 := L.z3; have v3 := L.v3; have u3 := run_underlying L.t3
  have t9 := L.t9; have a9 := L.a9; have z9 := L.z9; have v9 := L.v9; have u9 := run_underlying L.t9
  have t4 := L.t4; have a4 := L.a4; have z4 := L.z4; have v4 := L.v4; have u4 := run_underlying L.t4
  have e138 : ∀ args w, (callFunc (ρ.f 138) args).run P w = .ok (.enter (ρ.f 138) args) w := enters_of L.f138 (by kernel_rfl) rfl
  have e143 : ∀ args w, (callFunc (ρ.f 143) args).run P w = .ok (.enter (ρ.f 143) args) w := enters_of L.f143 (by kernel_rfl) rfl
  have e165 : ∀ args w, (callFunc (ρ.f 165) args).run P w = .ok (.enter (ρ.f 165) args) w := enters_of L.f165 (by kernel_rfl) rfl
  have e166 : ∀ args w, (callFunc (ρ.f 166) args).run P w = .ok (.enter (ρ.f 166) args) w := enters_of L.f166 (by kernel_rfl) rfl
  have e169 : ∀ args w, (callFunc (ρ.f 169) args).run P w = .ok (.enter (ρ.f 169) args) w := enters_of L.f169 (by kernel_rfl) rfl
  have h1s : (⟨#[c]⟩ : ByteArray).size = 1 := rfl
  obtain ⟨O, hO⟩ : ∃ O : ByteArray, O = ⟨#[c]⟩ := ⟨_, rfl⟩
  rw [← hO] at hC hbeq hod h1s ⊢
  have hIx : ∀ (x : ByteArray) (W : World), Calls P (ρ.f 143) #[.string x, .string O] W fun e w' => e = .returned (.int .i64 (indexByte x.data.toList c)) ∧ w' = W := fun x W => by rw [hO]; exact Any.strings_Index_one { L with } x c W
  have h1i : (O.size : Int) = 1 := by rw [h1s]; rfl
  clear hO
  go_enter L.f154, Body.n154_ntmps ρ
  go_wp2_with (first | (go_at_fn (ρ.f 138); refine hC.mono ?_; rintro e w' ⟨rfl, hw⟩; rw [hw]))
  clear hC
  rw [hga]
  refine (Any.Builder_Grow_fresh { L with } X w.heap.size w.heap.size _ _ (Nat.le_refl _) (heap_alloc_new w _) (by simp) (by omega)).mono ?_
  rintro e w1 ⟨rfl, hb0, hb1⟩
  have H1 := Any.hidR (Or.inr hb0 : Lib.IsBuilder (ρ.t 72) (ρ.t 5) w.heap.size w.heap.size (Lib.byteCells []) w1)
  have Hb1 := Any.hidR (((Below.refl w.heap.size w).alloc (Nat.le_refl _) _).trans hb1)
  clear hb0 hb1 hga
  go_wp2_with fail
  go_loopg [11, 53] K (fun g s11 s53 wx => ∃ (i start : Nat) (acc : List UInt8), s53 = .int .i64 i ∧ s11 = .int .i64 start ∧ i + g = K ∧ start ≤ s.size ∧
    Hid (Lib.IsBuilder (ρ.t 72) (ρ.t 5) w.heap.size w.heap.size (Lib.byteCells acc) wx) ∧ Hid (Below w.heap.size w wx) ∧ Hid (acc ++ rep c nw.data.toList (s.data.toList.drop start) = T) ∧ (s.data.toList.drop start).count c = g ∧ acc.length + (s.size - start) + g * nw.size ≤ s.size + K * nw.size)
  case atStart => exact ⟨0, 0, [], rfl, rfl, by omega, Nat.zero_le _, H1, Hb1, H0, hcnt0, by simp⟩
  case round =>
    clear H0 H1 Hb1
    obtain ⟨i, start, acc, rfl, rfl, hig, hst, HB, HW, HR, hgc, hbd⟩ := hrel
    have hBw : w.heap.size ≤ wr.heap.size := HW.out.size
    have c1 : (0 : Int) ≤ (start : Int) := by omega
    have c2 : (start : Int) ≤ (s.size : Int) := by omega
    cases gk with
    | zero =>
      have hiK : ¬ ((i : Int) < (K : Int)) := by omega
      go_wp2_with fail
      refine (Any.Builder_WriteString { L with } X w.heap.size w.heap.size _ _ wr HB.out (by rw [Lib.byteCells_length, ByteArray.size_extract]; omega) hBw).mono ?_
      rintro e w3 ⟨rfl, h3, hb3⟩
      rw [Lib.strCells_eq, Lib.extract_to_end, ← Lib.byteCells_append] at h3
      have hfin : acc ++ s.data.toList.drop start = T := by rw [← HR.out, rep_none c _ _ hgc]
      rw [hfin] at h3
      have H3 := Any.hidR (Or.inr h3 : Lib.IsBuilder (ρ.t 72) (ρ.t 5) w.heap.size w.heap.size _ w3)
      have Hb3 := Any.hidR (HW.out.trans hb3)
      have hBw3 : w.heap.size ≤ w3.heap.size := Hb3.out.size
      clear h3 hb3 hfin
      go_wp2_with fail
      refine (Any.Builder_String_any { L with } X w.heap.size w.heap.size _ w3 H3.out hBw3).mono ?_
      rintro e w5 ⟨rfl, hb5⟩
      have Hb5 := Any.hidR (Hb3.out.trans hb5)
      clear hb5
      go_wp2
      go_ret
      exact ⟨rfl, Hb5.out⟩
    | succ g =>
      have hiK : (i : Int) < (K : Int) := by omega
      obtain ⟨u, v, hu, hj, hu0, hv⟩ := first c (s.data.toList.drop start) (by omega)
      have hul : u.length + 1 + v.length = s.size - start := by
        have := congrArg List.length hu
        rw [List.length_drop, hlenL] at this
        simp at this
        omega
      have htake : (s.data.toList.drop start).take u.length = u := by rw [hu, List.take_left]
      have hdrop : s.data.toList.drop (start + u.length + 1) = v := by rw [show start + u.length + 1 = start + (u.length + 1) by omega, ← List.drop_drop, hu, ← List.drop_drop, List.drop_left]; rfl
      have hsucc : (g + 1) * nw.size = g * nw.size + nw.size := Nat.succ_mul _ _
      have c3 : (start : Int) ≤ (start : Int) + (u.length : Int) := by omega
      have c4 : (start : Int) + (u.length : Int) ≤ (s.size : Int) := by omega
      have hnext : Lib.byteCells acc ++ Lib.strCells (s.extract start (start + u.length)) ++ Lib.strCells nw = Lib.byteCells (acc ++ u ++ nw.data.toList) := by
        rw [Lib.strCells_eq, Lib.strCells_eq, Lib.extract_data, Nat.add_sub_cancel_left, htake, ← Lib.byteCells_append, ← Lib.byteCells_append]
      have hrep : (acc ++ u ++ nw.data.toList) ++ rep c nw.data.toList (s.data.toList.drop (start + u.length + 1)) = T := by
        rw [← HR.out, hu, rep_append, rep_none c _ u hu0, rep, hdrop]
        simp
      have hcnt : (s.data.toList.drop (start + u.length + 1)).count c = g := by rw [hdrop]; omega
      have Hn := Any.hidR hnext
      have Hrep := Any.hidR hrep
      have hix := hIx (s.extract start s.size) wr
      rw [Lib.extract_to_end, hj] at hix
      clear hnext hrep HR hu hj htake hdrop
      go_wp2_with (first | (go_at_fn (ρ.f 143); refine hix.mono ?_; rintro e w' ⟨rfl, hw⟩; rw [hw]))
      refine (Any.Builder_WriteString { L with } X w.heap.size w.heap.size _ (s.extract start (start + u.length)) wr HB.out (by rw [Lib.byteCells_length, ByteArray.size_extract]; omega) hBw).mono ?_
      rintro e w3 ⟨rfl, h3, hb3⟩
      have hBw3 : w.heap.size ≤ w3.heap.size := Nat.le_trans hBw hb3.size
      have H3 := Any.hidR h3
      have Hb3 := Any.hidR hb3
      clear h3 hb3
      go_wp2_with fail
      refine (Any.Builder_WriteString { L with } X w.heap.size w.heap.size _ nw w3 (Or.inr H3.out) (by rw [List.length_append, Lib.byteCells_length, Lib.strCells_length, ByteArray.size_extract]; omega) hBw3).mono ?_
      rintro e w4 ⟨rfl, h4, hb4⟩
      rw [Hn.out] at h4
      have H4 := Any.hidR (Or.inr h4 : Lib.IsBuilder (ρ.t 72) (ρ.t 5) w.heap.size w.heap.size _ w4)
      have Hb4 := Any.hidR ((HW.out.trans Hb3.out).trans hb4)
      clear h4 hb4
      go_wp2
      go_roundg g
      case measure => omega
      case rel => exact ⟨i + 1, start + u.length + 1, _, by first | rfl | (simp; unfold wrap64; omega), by first | rfl | simp | (simp; unfold wrap64; omega), by omega, by omega, H4, Hb4, Hrep, hcnt, by simp only [List.length_append, ← Lib.size_eq]; omega⟩
theorem nothing (L : Lays.n154 P ρ) (s nw : ByteArray) (c : UInt8) (w : World) (hne : (⟨#[c]⟩ : ByteArray) ≠ nw) (hc0 : s.data.toList.count c = 0) :
    Calls P (ρ.f 154) #[.string s, .string ⟨#[c]⟩, .string nw, .int .i64 (-1)] w fun e w' => e = .returned (.string s) ∧ w' = w := by
  have hC : Calls P (ρ.f 138) #[.string s, .string ⟨#[c]⟩] w fun e w' => e = .returned (.int .i64 ((s.data.toList.count c : Nat) : Int)) ∧ w' = w := Any.strings_Count_one { L with } s c w
  rw [hc0] at hC
  have hbeq : ((⟨#[c]⟩ : ByteArray).toList == nw.toList) = false := (Lib.bytes_beq_false_iff _ nw).2 hne
  obtain ⟨O, hO⟩ : ∃ O : ByteArray, O = ⟨#[c]⟩ := ⟨_, rfl⟩
  rw [← hO] at hC hbeq ⊢
  clear hO hne
  have t3 := L.t3; have a3 := L.a3; have z3 := L.z3; have v3 := L.v3
  have t9 := L.t9; have a9 := L.a9; have z9 := L.z9; have v9 := L.v9
  have t4 := L.t4; have a4 := L.a4; have z4 := L.z4; have v4 := L.v4
  have e138 : ∀ args w, (callFunc (ρ.f 138) args).run P w = .ok (.enter (ρ.f 138) args) w := enters_of L.f138 (by kernel_rfl) rfl
  go_enter L.f154, Body.n154_ntmps ρ
  go_wp2_with (first | (go_at_fn (ρ.f 138); refine hC.mono ?_; rintro e w' ⟨rfl, hw⟩; rw [hw]))
  go_ret
  exact ⟨rfl, rfl⟩
theorem replaceAll_one (L : Lays.n155 P ρ) (X : Builder.Extra P ρ) (s nw : ByteArray) (c : UInt8) (w : World) (hne : (⟨#[c]⟩ : ByteArray) ≠ nw) (hs : s.size < 4294967281) (hlen : s.size + s.size * nw.size ≤ 140737488355328) :
    Calls P (ρ.f 155) #[.string s, .string ⟨#[c]⟩, .string nw] w fun e w' => e = .returned (.string ⟨(rep c nw.data.toList s.data.toList).toArray⟩) ∧ Below w.heap.size w w' := by
  have hc : Calls P (ρ.f 154) #[.string s, .string ⟨#[c]⟩, .string nw, .int .i64 (-1)] w fun e w' => e = .returned (.string ⟨(rep c nw.data.toList s.data.toList).toArray⟩) ∧ Below w.heap.size w w' := by
    by_cases h0 : s.data.toList.count c = 0
    · refine (nothing { L with } s nw c w hne h0).mono fun e w' ⟨h1, h2⟩ => ⟨?_, h2 ▸ Below.refl _ _⟩
      rw [h1, rep_none c _ _ h0]
    · exact replace_some { L with } X s nw c w hne hs h0 hlen
  have t3 := L.t3; have a3 := L.a3; have z3 := L.z3; have v3 := L.v3
  have t9 := L.t9; have a9 := L.a9; have z9 := L.z9; have v9 := L.v9
  have e154 : ∀ args w, (callFunc (ρ.f 154) args).run P w = .ok (.enter (ρ.f 154) args) w := enters_of L.f154 (by kernel_rfl) rfl
  go_enter L.f155, Body.n155_ntmps ρ
  go_wp2_with (go_at_fn (ρ.f 154); refine hc.mono ?_; rintro e w' ⟨rfl, hw⟩)
  go_ret
  exact ⟨rfl, hw⟩
end Go.Proofs.YtpflnhbhgcediaaDoor.ReplOne

