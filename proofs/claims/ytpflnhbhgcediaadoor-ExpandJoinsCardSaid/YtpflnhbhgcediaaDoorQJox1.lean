-- Written by a program of this session (myprint.py) out of the translation; Lean checks it.
import Derived.Test.YtpflnhbhgcediaaDoorQJox0
import Derived.Test.YtpflnhbhgcediaaDoorFJo
import Derived.Test.YtpflnhbhgcediaaDoorArrEq
namespace Go.Proofs.YtpflnhbhgcediaaDoor.QJo
open Go.RowKit Go.Proofs.YtpflnhbhgcediaaDoorW.PrintWords Go.Proofs.YtpflnhbhgcediaaDoorW.PrintLast Go.Proofs.YtpflnhbhgcediaaDoorW.PrintMore
attribute [local go_sem] max2_int min2_int max_two min_two max_three min_three max_four min_four   -- for this text's walks alone
set_option linter.unusedVariables false
set_option linter.unusedSimpArgs false

-- NOT PRINTED: function 64 (bytealg_IndexByteString)

-- NOT PRINTED: function 52 (stringslite_IndexByte)

-- NOT PRINTED: function 72 (bytealg_IndexString)

-- NOT PRINTED: function 59 (stringslite_Index)

-- NOT PRINTED: function 48 (strings_Index)

-- NOT PRINTED: function 29 (strings_Contains)

-- NOT PRINTED: function 31 (strings_IndexByte)

-- NOT PRINTED: function 65 (abi_NoEscape)

-- NOT PRINTED: function 53 (strings_Builder_copyCheck)

-- NOT PRINTED: function 32 (strings_Builder_WriteString)

-- NOT PRINTED: function 79 (strings_indexFunc)

-- NOT PRINTED: function 76 (strings_IndexFunc)

-- NOT PRINTED: function 67 (strings_ContainsFunc)

-- NOT PRINTED: function 54 (expand_name)

-- NOT PRINTED: function 33 (expand_asks)

-- NOT PRINTED: function 34 (expand_reader_ask)

-- NOT PRINTED: function 35 (strings_Builder_Len)

-- NOT PRINTED: function 36 (expand_width)

-- NOT PRINTED: function 37 (strings_Builder_String)

-- NOT PRINTED: function 38 (strings_Builder_WriteByte)

/-! ### frisketlaw04_list: function 13 -/
def frisketlaw04_list.l0 : Nat → List ByteArray → List ByteArray → Int → Option (Bool)
  | 0, _, _, _ => none
  | k + 1, x0, x1, x5 => if x5 < (x0.length : Int) then (if 0 ≤ x5 then (if x5 < (x1.length : Int) then (if (rdOf ByteArray.empty x0 x5).toList = (rdOf ByteArray.empty x1 x5).toList then (frisketlaw04_list.l0 k x0 x1 (wrap64 (x5 + 1))) else (some false)) else (none)) else (none)) else (some true)
def frisketlaw04_list.f (k : Nat) (l0 : List ByteArray) (l1 : List ByteArray) : Option (Bool) := if (l0.length : Int) = (l1.length : Int) then (frisketlaw04_list.l0 k l0 l1 0) else (some false)
theorem frisketlaw04_list.mono_l : ∀ k, (∀ y0 y1 y2, LeO (frisketlaw04_list.l0 k y0 y1 y2) (frisketlaw04_list.l0 (k + 1) y0 y1 y2))
  | 0 => fun _ _ _ r h => by simp [frisketlaw04_list.l0] at h
  | k + 1 => by
    have ih0 := frisketlaw04_list.mono_l k
    · intro y0 y1 y2
      unfold frisketlaw04_list.l0
      repeat' first
      | (with_reducible exact ih0 _ _ _)
      | (with_reducible exact LeO.refl _)
      | (with_reducible exact LeO.none _)
      | (with_reducible refine LeO.ite ?_ ?_)
      | (with_reducible refine LeO.bind ?_ (fun _ => ?_))
      | exact ih0 _ _ _
      | exact LeO.none _
      | refine LeO.ite ?_ ?_
      | refine LeO.bind ?_ (fun _ => ?_)
theorem frisketlaw04_list.mono : ∀ a0 a1 k, LeO (frisketlaw04_list.f k a0 a1) (frisketlaw04_list.f (k + 1) a0 a1) := by
  intro a0 a1 k
  have ih0 := frisketlaw04_list.mono_l k
  unfold frisketlaw04_list.f
  repeat' first
      | (with_reducible exact ih0 _ _ _)
      | (with_reducible exact LeO.refl _)
      | (with_reducible exact LeO.none _)
      | (with_reducible refine LeO.ite ?_ ?_)
      | (with_reducible refine LeO.bind ?_ (fun _ => ?_))
      | exact ih0 _ _ _
      | exact LeO.none _
      | refine LeO.ite ?_ ?_
      | refine LeO.bind ?_ (fun _ => ?_)
set_option maxHeartbeats 8000000 in
set_option maxRecDepth 100000 in
theorem frisketlaw04_list.calls (k : Nat) (A0 : Option Addr) (c0 : Nat) (l0 : List ByteArray) (A1 : Option Addr) (c1 : Nat) (l1 : List ByteArray) (r : Bool) (w : World) (hr0 : Kd.C Kd.string w A0 l0.length l0) (hc0 : l0.length ≤ c0) (hr1 : Kd.C Kd.string w A1 l1.length l1) (hc1 : l1.length ≤ c1) (h : frisketlaw04_list.f k l0 l1 = some r) :
    Calls Tryd.prog 13 #[.slice A0 l0.length c0, .slice A1 l1.length c1] w fun e w' => e = .returned (.bool r) ∧ Drawn0 w w' := by
  have HR0 := Aside0.mk hr0
  have HC0 := Aside0.mk hc0
  clear hr0 hc0
  have HR1 := Aside0.mk hr1
  have HC1 := Aside0.mk hc1
  clear hr1 hc1
  have H : (if (l0.length : Int) = (l1.length : Int) then (frisketlaw04_list.l0 k l0 l1 0) else (some false)) = some r := h
  clear h
  by_cases c3 : (l0.length : Int) = (l1.length : Int)
  · rw [if_pos c3] at H
    have c3b0 : ((l0.length : Int) == (l1.length : Int)) = true := beq_iff_eq.mpr c3
    have c3b1 : ((l0.length : Int) != (l1.length : Int)) = false := bne_eq_false_iff_eq.mpr c3
    have c3b2 : (l0.length == l1.length) = true := by first | simpa using c3 | (simp at c3 ⊢; omega)
    clear c3
    have H' := Aside0.mk H
    clear H
    go_enter Tryd.func13, Tryd.ntmps13
    go_wp2
    repeat (go_quiet (fail); try go_wp2)
    go_loopg [5] k (fun kq v5 w' => ∃ (x5_1 : Int), v5 = .int .i64 x5_1 ∧ Aside0 (frisketlaw04_list.l0 kq l0 l1 x5_1 = some r) ∧ Aside0 (kq ≤ k) ∧ Drawn0 w w')
    case atStart => exact ⟨(0), (by first | rfl | (simp; done) | (simp [*]; done)), H', ⟨Nat.le_refl _⟩, by repeat (first | exact Drawn0.refl _ | apply Drawn0.step)⟩
    case round =>
      clear H'
      try clear c1
      try clear p2
      try clear c3
      try clear c3b0
      try clear c3b1
      try clear c3b2
      obtain ⟨x5_1, rfl, HA, HK1, ⟨m1, rfl⟩⟩ := hrel
      cases gk with
      | zero => exact absurd HA.out (by simp [frisketlaw04_list.l0])
      | succ k1 =>
        have H := HA.out
        clear HA
        simp only [frisketlaw04_list.l0] at H
        by_cases c4 : x5_1 < (l0.length : Int)
        · rw [if_pos c4] at H
          have c4b0 : decide (x5_1 < (l0.length : Int)) = true := decide_eq_true c4
          clear c4
          by_cases c5 : 0 ≤ x5_1
          · rw [if_pos c5] at H
            have c5b0 : decide (0 ≤ x5_1) = true := decide_eq_true c5
            clear c5
            by_cases c6 : x5_1 < (l1.length : Int)
            · rw [if_pos c6] at H
              have c6b0 : decide (x5_1 < (l1.length : Int)) = true := decide_eq_true c6
              clear c6
              by_cases c7 : (rdOf ByteArray.empty l0 x5_1).toList = (rdOf ByteArray.empty l1 x5_1).toList
              · rw [if_pos c7] at H
                have c7b0 : ((rdOf ByteArray.empty l0 x5_1).toList == (rdOf ByteArray.empty l1 x5_1).toList) = true := beq_iff_eq.mpr c7
                have c7b1 : ((rdOf ByteArray.empty l0 x5_1).toList != (rdOf ByteArray.empty l1 x5_1).toList) = false := bne_eq_false_iff_eq.mpr c7
                clear c7
                have H' := Aside0.mk H
                clear H
                have p103 : 0 ≤ (x5_1 : Int) := of_decide_eq_true (by first | (with_reducible assumption) | assumption)
                have q103 : x5_1 < (l0.length : Int) := of_decide_eq_true (by first | (with_reducible assumption) | assumption)
                obtain ⟨ad103, e103, hx103_0⟩ := Kd.at_string HR0.out x5_1 p103 q103
                cases e103
                replace p103 := eq_true p103
                replace q103 := eq_true q103
                have p104 : 0 ≤ (x5_1 : Int) := of_decide_eq_true (by first | (with_reducible assumption) | assumption)
                have q104 : x5_1 < (l1.length : Int) := of_decide_eq_true (by first | (with_reducible assumption) | assumption)
                obtain ⟨ad104, e104, hx104_0⟩ := Kd.at_string HR1.out x5_1 p104 q104
                cases e104
                replace p104 := eq_true p104
                replace q104 := eq_true q104
                go_wp2
                repeat (go_quiet (fail); try go_wp2)
                go_roundg k1
                case measure => have := HK1.out; omega
                case rel => exact ⟨(wrap64 (x5_1 + 1)), (by first | rfl | (simp; done) | (simp [*]; done)), H', ⟨by have := HK1.out; omega⟩, by repeat (first | exact Drawn0.refl _ | apply Drawn0.step)⟩
              · rw [if_neg c7] at H
                have c7b0 : ((rdOf ByteArray.empty l0 x5_1).toList == (rdOf ByteArray.empty l1 x5_1).toList) = false := beq_eq_false_iff_ne.mpr c7
                have c7b1 : ((rdOf ByteArray.empty l0 x5_1).toList != (rdOf ByteArray.empty l1 x5_1).toList) = true := bne_iff_ne.mpr c7
                obtain rfl := Option.some.inj H
                have p103 : 0 ≤ (x5_1 : Int) := of_decide_eq_true (by first | (with_reducible assumption) | assumption)
                have q103 : x5_1 < (l0.length : Int) := of_decide_eq_true (by first | (with_reducible assumption) | assumption)
                obtain ⟨ad103, e103, hx103_0⟩ := Kd.at_string HR0.out x5_1 p103 q103
                cases e103
                replace p103 := eq_true p103
                replace q103 := eq_true q103
                have p104 : 0 ≤ (x5_1 : Int) := of_decide_eq_true (by first | (with_reducible assumption) | assumption)
                have q104 : x5_1 < (l1.length : Int) := of_decide_eq_true (by first | (with_reducible assumption) | assumption)
                obtain ⟨ad104, e104, hx104_0⟩ := Kd.at_string HR1.out x5_1 p104 q104
                cases e104
                replace p104 := eq_true p104
                replace q104 := eq_true q104
                go_wp2
                repeat (go_quiet (fail); try go_wp2)
                go_ret
                exact ⟨by first | rfl | (simp; done) | (simp [*]; done), by repeat (first | exact Drawn0.refl _ | apply Drawn0.step)⟩
            · rw [if_neg c6] at H
              exact absurd H (by simp)
          · rw [if_neg c5] at H
            exact absurd H (by simp)
        · rw [if_neg c4] at H
          have c4b0 : decide (x5_1 < (l0.length : Int)) = false := decide_eq_false c4
          clear c4
          obtain rfl := Option.some.inj H
          go_wp2
          repeat (go_quiet (fail); try go_wp2)
          go_ret
          exact ⟨by first | rfl | (simp; done) | (simp [*]; done), by repeat (first | exact Drawn0.refl _ | apply Drawn0.step)⟩
  · rw [if_neg c3] at H
    have c3b0 : ((l0.length : Int) == (l1.length : Int)) = false := beq_eq_false_iff_ne.mpr c3
    have c3b1 : ((l0.length : Int) != (l1.length : Int)) = true := bne_iff_ne.mpr c3
    have c3b2 : (l0.length == l1.length) = false := by first | simpa using c3 | (simp at c3 ⊢; omega)
    obtain rfl := Option.some.inj H
    go_enter Tryd.func13, Tryd.ntmps13
    go_wp2
    repeat (go_quiet (fail); try go_wp2)
    go_ret
    exact ⟨by first | rfl | (simp; done) | (simp [*]; done), by repeat (first | exact Drawn0.refl _ | apply Drawn0.step)⟩

-- NOT PRINTED: function 56 (strings_asciiSet_contains)

-- NOT PRINTED: function 63 (utf8_decodeRuneInStringSlow)

-- NOT PRINTED: function 51 (utf8_DecodeRuneInString)

-- NOT PRINTED: function 57 (utf8_DecodeLastRuneInString)

-- NOT PRINTED: function 71 (strings_IndexRune)

-- NOT PRINTED: function 58 (strings_ContainsRune)

/-! ### expand_Join: function 14 -/
def expand_Join.l0 : Nat → List ByteArray → List ByteArray → Bool → List ByteArray → Int → Int → Option (List ByteArray)
  | 0, _, _, _, _, _, _ => none
  | k + 1, x0, x3, x4, x8, x9, x10 => if x10 < x9 then (if 0 ≤ x10 then (if x10 < (x8.length : Int) then (if x4 = true then (if 0 ≤ (wrap64 ((x3.length : Int) - 1)) then (if (wrap64 ((x3.length : Int) - 1)) < (x3.length : Int) then (if (rdOf ByteArray.empty x3 (wrap64 ((x3.length : Int) - 1))).size + (rdOf ByteArray.empty x8 x10).size ≤ 9223372036854775807 then ((some (x3.set ((wrap64 ((x3.length : Int) - 1)) : Int).toNat ((rdOf ByteArray.empty x3 (wrap64 ((x3.length : Int) - 1))) ++ (rdOf ByteArray.empty x8 x10)) : List ByteArray)).bind fun y107 => (if (wrap64 (x10 + 1)) < (x0.length : Int) then ((strings_TrimRight.f (rdOf ByteArray.empty y107 (wrap64 ((x3.length : Int) - 1))) (⟨#[92]⟩ : ByteArray)).bind fun t109 => (if (Int.tmod (wrap64 (((rdOf ByteArray.empty y107 (wrap64 ((x3.length : Int) - 1))).size : Int) - (t109.size : Int))) 2) = 1 then (if 0 ≤ (wrap64 (((rdOf ByteArray.empty y107 (wrap64 ((x3.length : Int) - 1))).size : Int) - 1)) then (if (wrap64 (((rdOf ByteArray.empty y107 (wrap64 ((x3.length : Int) - 1))).size : Int) - 1)) ≤ ((rdOf ByteArray.empty y107 (wrap64 ((x3.length : Int) - 1))).size : Int) then (expand_Join.l0 k x0 (y107.set ((wrap64 ((x3.length : Int) - 1)) : Int).toNat ((rdOf ByteArray.empty y107 (wrap64 ((x3.length : Int) - 1))).extract 0 ((wrap64 (((rdOf ByteArray.empty y107 (wrap64 ((x3.length : Int) - 1))).size : Int) - 1)) : Int).toNat)) ((Int.tmod (wrap64 (((rdOf ByteArray.empty y107 (wrap64 ((x3.length : Int) - 1))).size : Int) - (t109.size : Int))) 2) == 1) x8 x9 (wrap64 (x10 + 1))) else (none)) else (none)) else (expand_Join.l0 k x0 y107 ((Int.tmod (wrap64 (((rdOf ByteArray.empty y107 (wrap64 ((x3.length : Int) - 1))).size : Int) - (t109.size : Int))) 2) == 1) x8 x9 (wrap64 (x10 + 1))))) else (expand_Join.l0 k x0 y107 false x8 x9 (wrap64 (x10 + 1))))) else (none)) else (none)) else (none)) else (if x3.length < 8796093022208 then ((some (x3 ++ [rdOf ByteArray.empty x8 x10] : List ByteArray)).bind fun y111 => (if 0 ≤ (wrap64 ((y111.length : Int) - 1)) then (if (wrap64 ((y111.length : Int) - 1)) < (y111.length : Int) then (if (wrap64 (x10 + 1)) < (x0.length : Int) then ((strings_TrimRight.f (rdOf ByteArray.empty y111 (wrap64 ((y111.length : Int) - 1))) (⟨#[92]⟩ : ByteArray)).bind fun t115 => (if (Int.tmod (wrap64 (((rdOf ByteArray.empty y111 (wrap64 ((y111.length : Int) - 1))).size : Int) - (t115.size : Int))) 2) = 1 then (if 0 ≤ (wrap64 (((rdOf ByteArray.empty y111 (wrap64 ((y111.length : Int) - 1))).size : Int) - 1)) then (if (wrap64 (((rdOf ByteArray.empty y111 (wrap64 ((y111.length : Int) - 1))).size : Int) - 1)) ≤ ((rdOf ByteArray.empty y111 (wrap64 ((y111.length : Int) - 1))).size : Int) then (expand_Join.l0 k x0 (y111.set ((wrap64 ((y111.length : Int) - 1)) : Int).toNat ((rdOf ByteArray.empty y111 (wrap64 ((y111.length : Int) - 1))).extract 0 ((wrap64 (((rdOf ByteArray.empty y111 (wrap64 ((y111.length : Int) - 1))).size : Int) - 1)) : Int).toNat)) ((Int.tmod (wrap64 (((rdOf ByteArray.empty y111 (wrap64 ((y111.length : Int) - 1))).size : Int) - (t115.size : Int))) 2) == 1) x8 x9 (wrap64 (x10 + 1))) else (none)) else (none)) else (expand_Join.l0 k x0 y111 ((Int.tmod (wrap64 (((rdOf ByteArray.empty y111 (wrap64 ((y111.length : Int) - 1))).size : Int) - (t115.size : Int))) 2) == 1) x8 x9 (wrap64 (x10 + 1))))) else (expand_Join.l0 k x0 y111 false x8 x9 (wrap64 (x10 + 1)))) else (none)) else (none))) else (none))) else (none)) else (none)) else (some x3)
def expand_Join.f (k : Nat) (l0 : List ByteArray) : Option (List ByteArray) := expand_Join.l0 k l0 ([] : List ByteArray) false l0 (l0.length : Int) 0
theorem expand_Join.mono_l : ∀ k, (∀ y0 y1 y2 y3 y4 y5, LeO (expand_Join.l0 k y0 y1 y2 y3 y4 y5) (expand_Join.l0 (k + 1) y0 y1 y2 y3 y4 y5))
  | 0 => fun _ _ _ _ _ _ r h => by simp [expand_Join.l0] at h
  | k + 1 => by
    have ih0 := expand_Join.mono_l k
    · intro y0 y1 y2 y3 y4 y5
      unfold expand_Join.l0
      repeat' first
      | (with_reducible exact ih0 _ _ _ _ _ _)
      | (with_reducible exact LeO.refl _)
      | (with_reducible exact LeO.none _)
      | (with_reducible refine LeO.ite ?_ ?_)
      | (with_reducible refine LeO.bind ?_ (fun _ => ?_))
      | exact ih0 _ _ _ _ _ _
      | exact LeO.none _
      | refine LeO.ite ?_ ?_
      | refine LeO.bind ?_ (fun _ => ?_)
theorem expand_Join.mono : ∀ a0 k, LeO (expand_Join.f k a0) (expand_Join.f (k + 1) a0) := by
  intro a0 k
  have ih0 := expand_Join.mono_l k
  unfold expand_Join.f
  repeat' first
      | (with_reducible exact ih0 _ _ _ _ _ _)
      | (with_reducible exact LeO.refl _)
      | (with_reducible exact LeO.none _)
      | (with_reducible refine LeO.ite ?_ ?_)
      | (with_reducible refine LeO.bind ?_ (fun _ => ?_))
      | exact ih0 _ _ _ _ _ _
      | exact LeO.none _
      | refine LeO.ite ?_ ?_
      | refine LeO.bind ?_ (fun _ => ?_)
set_option maxHeartbeats 8000000 in
set_option maxRecDepth 100000 in
theorem expand_Join.calls (k : Nat) (A0 : Option Addr) (c0 : Nat) (l0 : List ByteArray) (r : List ByteArray) (w : World) (hr0 : Kd.C Kd.string w A0 l0.length l0) (hc0 : l0.length ≤ c0) (h : expand_Join.f k l0 = some r) :
    Calls Tryd.prog 14 #[.slice A0 l0.length c0] w fun e w' => ∃ v0_ : Value, e = .returned (v0_) ∧ Kd.R Kd.string 9 w' w.heap.size (fun _ => True) v0_ r ∧ Below w.heap.size w w' := by
  have HR0 := Aside0.mk hr0
  have HC0 := Aside0.mk hc0
  clear hr0 hc0
  have HB := Aside0.mk (Below.refl w.heap.size w)
  have H : (expand_Join.l0 k l0 ([] : List ByteArray) false l0 (l0.length : Int) 0) = some r := h
  clear h
  have H' := Aside0.mk H
  clear H
  go_enter Tryd.func14, Tryd.ntmps14
  go_wp2
  go_loopg [3, 4, 10] k (fun kq v3 v4 v10 w' => ∃ (x3_1 : List ByteArray) (x4_1 : Bool) (x10_1 : Int), v4 = .bool x4_1 ∧ v10 = .int .i64 x10_1 ∧ Aside0 (expand_Join.l0 kq l0 x3_1 x4_1 l0 (l0.length : Int) x10_1 = some r) ∧ Aside0 (kq ≤ k) ∧ Aside0 (Kd.R Kd.string 9 w' w.heap.size (fun _ => True) v3 x3_1) ∧ Aside0 (Below w.heap.size w w'))
  case atStart => exact ⟨(([] : List ByteArray)), (false), (0), (by first | rfl | (simp; done) | (simp [*]; done)), (by first | rfl | (simp; done) | (simp [*]; done)), H', ⟨Nat.le_refl _⟩, ⟨by first | exact Kd.R_nil _ _ _ _ _ | exact Kd.N_nil _ _ _ _ _ | exact Kd.V_nil _ _ _ _ _ | exact Kd.Q_nil _ _ _ _ _ | exact Kd.S_nil _ _ _ _ _⟩, ⟨by repeat (first | (with_reducible first | exact HB.out | apply below_alloc | apply pw_below_drewN | apply below_drew1) | exact HB.out)⟩⟩
  case round =>
    clear H'
    try clear c1
    obtain ⟨x3_1, x4_1, x10_1, rfl, rfl, HA, HK1, HO_3, HB⟩ := hrel
    cases gk with
    | zero => exact absurd HA.out (by simp [expand_Join.l0])
    | succ k1 =>
      have H := HA.out
      clear HA
      simp only [expand_Join.l0] at H
      by_cases c2 : x10_1 < (l0.length : Int)
      · rw [if_pos c2] at H
        have c2b0 : decide (x10_1 < (l0.length : Int)) = true := decide_eq_true c2
        clear c2
        by_cases c3 : 0 ≤ x10_1
        · rw [if_pos c3] at H
          have c3b0 : decide (0 ≤ x10_1) = true := decide_eq_true c3
          clear c3
          by_cases c4 : x10_1 < (l0.length : Int)
          · rw [if_pos c4] at H
            have c4b0 : decide (x10_1 < (l0.length : Int)) = true := decide_eq_true c4
            clear c4
            by_cases c5 : x4_1 = true
            · subst c5
              have H1 : (if 0 ≤ (wrap64 ((x3_1.length : Int) - 1)) then (if (wrap64 ((x3_1.length : Int) - 1)) < (x3_1.length : Int) then (if (rdOf ByteArray.empty x3_1 (wrap64 ((x3_1.length : Int) - 1))).size + (rdOf ByteArray.empty l0 x10_1).size ≤ 9223372036854775807 then ((some (x3_1.set ((wrap64 ((x3_1.length : Int) - 1)) : Int).toNat ((rdOf ByteArray.empty x3_1 (wrap64 ((x3_1.length : Int) - 1))) ++ (rdOf ByteArray.empty l0 x10_1)) : List ByteArray)).bind fun y107 => (if (wrap64 (x10_1 + 1)) < (l0.length : Int) then ((strings_TrimRight.f (rdOf ByteArray.empty y107 (wrap64 ((x3_1.length : Int) - 1))) (⟨#[92]⟩ : ByteArray)).bind fun t109 => (if (Int.tmod (wrap64 (((rdOf ByteArray.empty y107 (wrap64 ((x3_1.length : Int) - 1))).size : Int) - (t109.size : Int))) 2) = 1 then (if 0 ≤ (wrap64 (((rdOf ByteArray.empty y107 (wrap64 ((x3_1.length : Int) - 1))).size : Int) - 1)) then (if (wrap64 (((rdOf ByteArray.empty y107 (wrap64 ((x3_1.length : Int) - 1))).size : Int) - 1)) ≤ ((rdOf ByteArray.empty y107 (wrap64 ((x3_1.length : Int) - 1))).size : Int) then (expand_Join.l0 k1 l0 (y107.set ((wrap64 ((x3_1.length : Int) - 1)) : Int).toNat ((rdOf ByteArray.empty y107 (wrap64 ((x3_1.length : Int) - 1))).extract 0 ((wrap64 (((rdOf ByteArray.empty y107 (wrap64 ((x3_1.length : Int) - 1))).size : Int) - 1)) : Int).toNat)) ((Int.tmod (wrap64 (((rdOf ByteArray.empty y107 (wrap64 ((x3_1.length : Int) - 1))).size : Int) - (t109.size : Int))) 2) == 1) l0 (l0.length : Int) (wrap64 (x10_1 + 1))) else (none)) else (none)) else (expand_Join.l0 k1 l0 y107 ((Int.tmod (wrap64 (((rdOf ByteArray.empty y107 (wrap64 ((x3_1.length : Int) - 1))).size : Int) - (t109.size : Int))) 2) == 1) l0 (l0.length : Int) (wrap64 (x10_1 + 1))))) else (expand_Join.l0 k1 l0 y107 false l0 (l0.length : Int) (wrap64 (x10_1 + 1))))) else (none)) else (none)) else (none)) = some r := by rw [if_pos rfl] at H; exact H
              clear H
              have H := H1
              clear H1
              obtain ⟨ji6, hji6⟩ : ∃ j_ : Int, (wrap64 ((x3_1.length : Int) - 1)) = j_ := ⟨_, rfl⟩
              replace H : (if 0 ≤ (ji6) then (if (ji6) < (x3_1.length : Int) then (if (rdOf ByteArray.empty x3_1 (ji6)).size + (rdOf ByteArray.empty l0 x10_1).size ≤ 9223372036854775807 then ((some (x3_1.set ((ji6) : Int).toNat ((rdOf ByteArray.empty x3_1 (ji6)) ++ (rdOf ByteArray.empty l0 x10_1)) : List ByteArray)).bind fun y107 => (if (wrap64 (x10_1 + 1)) < (l0.length : Int) then ((strings_TrimRight.f (rdOf ByteArray.empty y107 (ji6)) (⟨#[92]⟩ : ByteArray)).bind fun t109 => (if (Int.tmod (wrap64 (((rdOf ByteArray.empty y107 (ji6)).size : Int) - (t109.size : Int))) 2) = 1 then (if 0 ≤ (wrap64 (((rdOf ByteArray.empty y107 (ji6)).size : Int) - 1)) then (if (wrap64 (((rdOf ByteArray.empty y107 (ji6)).size : Int) - 1)) ≤ ((rdOf ByteArray.empty y107 (ji6)).size : Int) then (expand_Join.l0 k1 l0 (y107.set ((ji6) : Int).toNat ((rdOf ByteArray.empty y107 (ji6)).extract 0 ((wrap64 (((rdOf ByteArray.empty y107 (ji6)).size : Int) - 1)) : Int).toNat)) ((Int.tmod (wrap64 (((rdOf ByteArray.empty y107 (ji6)).size : Int) - (t109.size : Int))) 2) == 1) l0 (l0.length : Int) (wrap64 (x10_1 + 1))) else (none)) else (none)) else (expand_Join.l0 k1 l0 y107 ((Int.tmod (wrap64 (((rdOf ByteArray.empty y107 (ji6)).size : Int) - (t109.size : Int))) 2) == 1) l0 (l0.length : Int) (wrap64 (x10_1 + 1))))) else (expand_Join.l0 k1 l0 y107 false l0 (l0.length : Int) (wrap64 (x10_1 + 1))))) else (none)) else (none)) else (none)) = some r := by first | (rw [hji6] at H; exact H) | (simp only [hji6] at H ⊢; exact H)
              have hji6w : (IntKind.i64.wrap ((x3_1.length : Int) - 1)) = ji6 := (i64_w _).trans hji6
              by_cases c7 : 0 ≤ (ji6)
              · rw [if_pos c7] at H
                have c7b0 : decide (0 ≤ (ji6)) = true := decide_eq_true c7
                clear c7
                by_cases c8 : (ji6) < (x3_1.length : Int)
                · rw [if_pos c8] at H
                  have c8b0 : decide ((ji6) < (x3_1.length : Int)) = true := decide_eq_true c8
                  clear c8
                  by_cases c9 : (rdOf ByteArray.empty x3_1 (ji6)).size + (rdOf ByteArray.empty l0 x10_1).size ≤ 9223372036854775807
                  · rw [if_pos c9] at H
                    have c9b0 := eq_true c9
                    have c9b1 : decide ((rdOf ByteArray.empty x3_1 (ji6)).size + (rdOf ByteArray.empty l0 x10_1).size ≤ 9223372036854775807) = true := decide_eq_true c9
                    try have c9b2 : (9223372036854775807 < (rdOf ByteArray.empty x3_1 (ji6)).size + (rdOf ByteArray.empty l0 x10_1).size) = False := eq_false (Nat.not_lt.2 c9)
                    obtain ⟨y107, hy107⟩ : ∃ y_ : List ByteArray, y_ = (x3_1.set ((ji6) : Int).toNat ((rdOf ByteArray.empty x3_1 (ji6)) ++ (rdOf ByteArray.empty l0 x10_1))) := ⟨_, rfl⟩
                    replace H : (if (wrap64 (x10_1 + 1)) < (l0.length : Int) then ((strings_TrimRight.f (rdOf ByteArray.empty y107 (ji6)) (⟨#[92]⟩ : ByteArray)).bind fun t109 => (if (Int.tmod (wrap64 (((rdOf ByteArray.empty y107 (ji6)).size : Int) - (t109.size : Int))) 2) = 1 then (if 0 ≤ (wrap64 (((rdOf ByteArray.empty y107 (ji6)).size : Int) - 1)) then (if (wrap64 (((rdOf ByteArray.empty y107 (ji6)).size : Int) - 1)) ≤ ((rdOf ByteArray.empty y107 (ji6)).size : Int) then (expand_Join.l0 k1 l0 (y107.set ((ji6) : Int).toNat ((rdOf ByteArray.empty y107 (ji6)).extract 0 ((wrap64 (((rdOf ByteArray.empty y107 (ji6)).size : Int) - 1)) : Int).toNat)) ((Int.tmod (wrap64 (((rdOf ByteArray.empty y107 (ji6)).size : Int) - (t109.size : Int))) 2) == 1) l0 (l0.length : Int) (wrap64 (x10_1 + 1))) else (none)) else (none)) else (expand_Join.l0 k1 l0 y107 ((Int.tmod (wrap64 (((rdOf ByteArray.empty y107 (ji6)).size : Int) - (t109.size : Int))) 2) == 1) l0 (l0.length : Int) (wrap64 (x10_1 + 1))))) else (expand_Join.l0 k1 l0 y107 false l0 (l0.length : Int) (wrap64 (x10_1 + 1)))) = some r := by first | (rw [hy107]; with_reducible exact H) | (have H2_ := (Option.bind_some _ _).symm.trans H; rw [hy107]; with_reducible exact H2_) | (have H2_ := (Option.bind_some _ _).symm.trans H; with_reducible exact H2_) | with_reducible exact H | (rw [hy107]; exact H) | exact H
                    have Ny107 := Aside0.mk hy107
                    clear hy107
                    by_cases c11 : (wrap64 (x10_1 + 1)) < (l0.length : Int)
                    · rw [if_pos c11] at H
                      have c11b0 : decide ((wrap64 (x10_1 + 1)) < (l0.length : Int)) = true := decide_eq_true c11
                      clear c11
                      replace H := Option.bind_eq_some_iff.mp H
                      obtain ⟨t109, A120, H⟩ := H
                      replace H : (if (Int.tmod (wrap64 (((rdOf ByteArray.empty y107 (ji6)).size : Int) - (t109.size : Int))) 2) = 1 then (if 0 ≤ (wrap64 (((rdOf ByteArray.empty y107 (ji6)).size : Int) - 1)) then (if (wrap64 (((rdOf ByteArray.empty y107 (ji6)).size : Int) - 1)) ≤ ((rdOf ByteArray.empty y107 (ji6)).size : Int) then (expand_Join.l0 k1 l0 (y107.set ((ji6) : Int).toNat ((rdOf ByteArray.empty y107 (ji6)).extract 0 ((wrap64 (((rdOf ByteArray.empty y107 (ji6)).size : Int) - 1)) : Int).toNat)) ((Int.tmod (wrap64 (((rdOf ByteArray.empty y107 (ji6)).size : Int) - (t109.size : Int))) 2) == 1) l0 (l0.length : Int) (wrap64 (x10_1 + 1))) else (none)) else (none)) else (expand_Join.l0 k1 l0 y107 ((Int.tmod (wrap64 (((rdOf ByteArray.empty y107 (ji6)).size : Int) - (t109.size : Int))) 2) == 1) l0 (l0.length : Int) (wrap64 (x10_1 + 1)))) = some r := H
                      have A12 := Aside0.mk A120
                      clear A120
                      by_cases c13 : (Int.tmod (wrap64 (((rdOf ByteArray.empty y107 (ji6)).size : Int) - (t109.size : Int))) 2) = 1
                      · rw [if_pos c13] at H
                        have c13b0 : ((Int.tmod (wrap64 (((rdOf ByteArray.empty y107 (ji6)).size : Int) - (t109.size : Int))) 2) == 1) = true := beq_iff_eq.mpr c13
                        have c13b1 : ((Int.tmod (wrap64 (((rdOf ByteArray.empty y107 (ji6)).size : Int) - (t109.size : Int))) 2) != 1) = false := bne_eq_false_iff_eq.mpr c13
                        clear c13
                        obtain ⟨ji14, hji14⟩ : ∃ j_ : Int, (wrap64 (((rdOf ByteArray.empty y107 (ji6)).size : Int) - 1)) = j_ := ⟨_, rfl⟩
                        replace H : (if 0 ≤ (ji14) then (if (ji14) ≤ ((rdOf ByteArray.empty y107 (ji6)).size : Int) then (expand_Join.l0 k1 l0 (y107.set ((ji6) : Int).toNat ((rdOf ByteArray.empty y107 (ji6)).extract 0 ((ji14) : Int).toNat)) ((Int.tmod (wrap64 (((rdOf ByteArray.empty y107 (ji6)).size : Int) - (t109.size : Int))) 2) == 1) l0 (l0.length : Int) (wrap64 (x10_1 + 1))) else (none)) else (none)) = some r := by first | (rw [hji14] at H; exact H) | (simp only [hji14] at H ⊢; exact H)
                        (try rw [hji14] at A12)
                        have hji14w : (IntKind.i64.wrap (((rdOf ByteArray.empty y107 (ji6)).size : Int) - 1)) = ji14 := (i64_w _).trans hji14
                        by_cases c15 : 0 ≤ (ji14)
                        · rw [if_pos c15] at H
                          have c15b0 := eq_true c15
                          have c15b1 : decide (0 ≤ (ji14)) = true := decide_eq_true c15
                          clear c15
                          by_cases c16 : (ji14) ≤ ((rdOf ByteArray.empty y107 (ji6)).size : Int)
                          · rw [if_pos c16] at H
                            have c16b0 := eq_true c16
                            have c16b1 : decide ((ji14) ≤ ((rdOf ByteArray.empty y107 (ji6)).size : Int)) = true := decide_eq_true c16
                            clear c16
                            obtain ⟨y110, hy110⟩ : ∃ y_ : List ByteArray, y_ = (y107.set ((ji6) : Int).toNat ((rdOf ByteArray.empty y107 (ji6)).extract 0 ((ji14) : Int).toNat)) := ⟨_, rfl⟩
                            replace H : (expand_Join.l0 k1 l0 y110 ((Int.tmod (wrap64 (((rdOf ByteArray.empty y107 (ji6)).size : Int) - (t109.size : Int))) 2) == 1) l0 (l0.length : Int) (wrap64 (x10_1 + 1))) = some r := by first | (rw [hy110]; with_reducible exact H) | (have H2_ := (Option.bind_some _ _).symm.trans H; rw [hy110]; with_reducible exact H2_) | (have H2_ := (Option.bind_some _ _).symm.trans H; with_reducible exact H2_) | with_reducible exact H | (rw [hy110]; exact H) | exact H
                            have Ny110 := Aside0.mk hy110
                            clear hy110
                            have H' := Aside0.mk H
                            clear H
                            have p105 : 0 ≤ (x10_1 : Int) := of_decide_eq_true (by first | (with_reducible assumption) | assumption)
                            have q105 : x10_1 < (l0.length : Int) := of_decide_eq_true (by first | (with_reducible assumption) | assumption)
                            obtain ⟨ad105, e105, hx105_0⟩ := Kd.at_string HR0.out x10_1 p105 q105
                            cases e105
                            replace hx105_0 := (HB.out.cell (World.block_lt_of_cell? w _ hx105_0)).trans hx105_0
                            replace p105 := eq_true p105
                            replace q105 := eq_true q105
                            obtain ⟨Ao18, co18, eo18⟩ := Kd.R_slice HO_3.out
                            subst eo18
                            have p106 : 0 ≤ ((ji6) : Int) := of_decide_eq_true (by first | (with_reducible assumption) | assumption)
                            have q106 : (ji6) < (x3_1.length : Int) := of_decide_eq_true (by first | (with_reducible assumption) | assumption)
                            obtain ⟨ad106, e106, hx106_0⟩ := Kd.at_string (Kd.R_reads' HO_3.out).2.2 (ji6) p106 q106
                            cases e106
                            replace p106 := eq_true p106
                            replace q106 := eq_true q106
                            have p10 : 0 ≤ ((ji6) : Int) := of_decide_eq_true (by first | (with_reducible assumption) | assumption)
                            have q10 : ((ji6) : Int) < ((x3_1.length : Int) : Int) := of_decide_eq_true (by first | (with_reducible assumption) | assumption)
                            obtain ⟨go10, co10, eo10, gb10, gl10, cl10, HG10⟩ := Kd.R_form HO_3.out (by omega)
                            (first | cases eo10 | (injection eo10 with ea_ en_ ec_; (first | subst ea_ | (injection ea_ with ea_; subst ea_)); subst ec_; clear en_))
                            have GB10 := Aside0.mk gb10
                            have GG10 := Aside0.mk HG10
                            clear gb10 gl10 HG10
                            (first | simp only [add_plain] at hx106_0 | skip)
                            obtain ⟨hx10_0, hf10_0⟩ := Kd.R_celln (⟨#[]⟩ : ByteArray) HO_3.out ((ji6) : Int) p10 q10
                            replace p10 := eq_true p10
                            replace q10 := eq_true q10
                            have HP19 := Kd.R_putg HO_3.out ((ji6) : Int) ((rdOf ByteArray.empty x3_1 (ji6)) ++ (rdOf ByteArray.empty l0 x10_1))
                            go_wp2_with (first | ((with_reducible refine gate_store (t := 9) (p := 24) rfl ?_); refine store_event (t := 9) (p := 24) (v := ?vo_w20) (w1 := (wr.setCell ⟨go10, ((ji6) : Int).toNat, none⟩ (.string ((rdOf ByteArray.empty x3_1 (ji6)) ++ (rdOf ByteArray.empty l0 x10_1))))) ?hg ?ho ?hn ?hr ?_; (case ho => rfl); (case hg => rfl); (case hn => rfl); (case hr => first | (go_simp; done) | (go_simp; rfl)); intro w20 hw; have hg : wr.grownBy w20 (some go10) := (by rw [hw]; exact HP19.2); have hp_ : Kd.R Kd.string 9 w20 w.heap.size (fun _ => True) (.slice (some ⟨go10, 0, none⟩) x3_1.length co18) y107 := (by rw [hw, Ny107.out]; exact HP19.1); clear HP19; have n0_ := Aside0.mk (hp_); have n1_ := Aside0.mk ((by rw [hw]; exact below_set (HB.out) GB10.out : Below w.heap.size w w20)); clear HO_3; clear HB; have HO_3 := n0_; have HB := n1_; clear n0_ n1_; clear hg hw hp_; have p108 : 0 ≤ ((ji6) : Int) := of_decide_eq_true (by first | (with_reducible assumption) | assumption); have q108 : (ji6) < (y107.length : Int) := (by have h_ : ((ji6) : Int) < ((x3_1.length : Int) : Int) := of_decide_eq_true (by first | (with_reducible assumption) | assumption); first | (have e_ := (Kd.R_reads' HO_3.out).1; omega) | simpa only [Ny107.out, List.length_set] using h_); have ql108 : (((ji6) : Int) < ((x3_1.length : Int) : Int)) = True := eq_true (of_decide_eq_true (by first | (with_reducible assumption) | assumption)); obtain ⟨ad108, e108, hx108_0⟩ := Kd.at_string (Kd.R_reads' HO_3.out).2.2 (ji6) p108 q108; obtain rfl : (⟨go10, 0, none⟩ : Addr) = ad108 := (by injection e108); (first | simp only [add_plain] at hx108_0 | simp only [add_at] at hx108_0 | simp only [Addr.add, Nat.zero_add] at hx108_0 | skip); replace p108 := eq_true p108; replace q108 := eq_true q108) | (go_at_call 27; (with_reducible refine (strings_TrimRight.calls (rdOf ByteArray.empty y107 (ji6)) (⟨#[92]⟩ : ByteArray) t109 _ A12.out).mono ?_); rintro e w21 ⟨rfl, hb⟩; have n0_ := Aside0.mk (Kd.R_below (by (with_reducible repeat (first | apply Kd.R_alloc | apply Kd.R_drewN | apply Kd.R_drew)); exact HO_3.out) hb); have n1_ := Aside0.mk (below_step (by repeat (first | (with_reducible first | exact HB.out | apply below_alloc | apply pw_below_drewN | apply below_drew1) | exact HB.out)) hb); clear HO_3; clear HB; have HO_3 := n0_; have HB := n1_; clear n0_ n1_; (try clear hb); (try clear hb2); (try clear hk); (try clear hi); have p17 : 0 ≤ ((ji6) : Int) := of_decide_eq_true (by first | (with_reducible assumption) | assumption); have q17 : ((ji6) : Int) < ((x3_1.length : Int) : Int) := of_decide_eq_true (by first | (with_reducible assumption) | assumption); obtain ⟨hx17_0, hf17_0⟩ := Kd.R_celln (⟨#[]⟩ : ByteArray) HO_3.out ((ji6) : Int) p17 q17; replace p17 := eq_true p17; replace q17 := eq_true q17; obtain ⟨hy22_, hz22_⟩ := Kd.R_celln (⟨#[]⟩ : ByteArray) HO_3.out ((ji6) : Int) (of_decide_eq_true (by first | (with_reducible assumption) | assumption)) (of_decide_eq_true (by first | (with_reducible assumption) | assumption)); have HP22 := Kd.R_putg HO_3.out ((ji6) : Int) ((rdOf ByteArray.empty y107 (ji6)).extract 0 ((ji14) : Int).toNat)) | ((with_reducible refine gate_store (t := 9) (p := 60) rfl ?_); refine store_event (t := 9) (p := 60) (v := ?vo_w23) (w1 := (w21.setCell ⟨go10, ((ji6) : Int).toNat, none⟩ (.string ((rdOf ByteArray.empty y107 (ji6)).extract 0 ((ji14) : Int).toNat)))) ?hg ?ho ?hn ?hr ?_; (case ho => rfl); (case hg => rfl); (case hn => rfl); (case hr => first | (go_simp; done) | (go_simp; rfl)); intro w23 hw; have hg : w21.grownBy w23 (some go10) := (by rw [hw]; exact HP22.2); have hp_ : Kd.R Kd.string 9 w23 w.heap.size (fun _ => True) (.slice (some ⟨go10, 0, none⟩) x3_1.length co18) y110 := (by rw [hw, Ny110.out]; exact HP22.1); clear HP22; have n0_ := Aside0.mk (hp_); have n1_ := Aside0.mk ((by rw [hw]; exact below_set (HB.out) GB10.out : Below w.heap.size w w23)); clear HO_3; clear HB; have HO_3 := n0_; have HB := n1_; clear n0_ n1_; clear hg hw hp_))
                            go_roundg k1
                            case measure => have := HK1.out; omega
                            case rel => exact ⟨(y110), (((Int.tmod (wrap64 (((rdOf ByteArray.empty y107 (ji6)).size : Int) - (t109.size : Int))) 2) == 1)), (wrap64 (x10_1 + 1)), (by first | rfl | (simp; done) | (simp only [← hji6] <;> (first | rfl | (simp; done) | (simp [mn, mx]; done))) | (simp [*]; done)), (by first | rfl | (simp; done) | (simp [*]; done)), H', ⟨by have := HK1.out; omega⟩, ⟨by (with_reducible repeat (first | apply Kd.R_alloc | apply Kd.R_drewN | apply Kd.R_drew)); exact HO_3.out⟩, ⟨by repeat (first | (with_reducible first | exact HB.out | apply below_alloc | apply pw_below_drewN | apply below_drew1) | exact HB.out)⟩⟩
                          · rw [if_neg c16] at H
                            exact absurd H (by simp)
                        · rw [if_neg c15] at H
                          exact absurd H (by simp)
                      · rw [if_neg c13] at H
                        have c13b0 : ((Int.tmod (wrap64 (((rdOf ByteArray.empty y107 (ji6)).size : Int) - (t109.size : Int))) 2) == 1) = false := beq_eq_false_iff_ne.mpr c13
                        have c13b1 : ((Int.tmod (wrap64 (((rdOf ByteArray.empty y107 (ji6)).size : Int) - (t109.size : Int))) 2) != 1) = true := bne_iff_ne.mpr c13
                        have H' := Aside0.mk H
                        clear H
                        have p105 : 0 ≤ (x10_1 : Int) := of_decide_eq_true (by first | (with_reducible assumption) | assumption)
                        have q105 : x10_1 < (l0.length : Int) := of_decide_eq_true (by first | (with_reducible assumption) | assumption)
                        obtain ⟨ad105, e105, hx105_0⟩ := Kd.at_string HR0.out x10_1 p105 q105
                        cases e105
                        replace hx105_0 := (HB.out.cell (World.block_lt_of_cell? w _ hx105_0)).trans hx105_0
                        replace p105 := eq_true p105
                        replace q105 := eq_true q105
                        obtain ⟨Ao24, co24, eo24⟩ := Kd.R_slice HO_3.out
                        subst eo24
                        have p106 : 0 ≤ ((ji6) : Int) := of_decide_eq_true (by first | (with_reducible assumption) | assumption)
                        have q106 : (ji6) < (x3_1.length : Int) := of_decide_eq_true (by first | (with_reducible assumption) | assumption)
                        obtain ⟨ad106, e106, hx106_0⟩ := Kd.at_string (Kd.R_reads' HO_3.out).2.2 (ji6) p106 q106
                        cases e106
                        replace p106 := eq_true p106
                        replace q106 := eq_true q106
                        have p10 : 0 ≤ ((ji6) : Int) := of_decide_eq_true (by first | (with_reducible assumption) | assumption)
                        have q10 : ((ji6) : Int) < ((x3_1.length : Int) : Int) := of_decide_eq_true (by first | (with_reducible assumption) | assumption)
                        obtain ⟨go10, co10, eo10, gb10, gl10, cl10, HG10⟩ := Kd.R_form HO_3.out (by omega)
                        (first | cases eo10 | (injection eo10 with ea_ en_ ec_; (first | subst ea_ | (injection ea_ with ea_; subst ea_)); subst ec_; clear en_))
                        have GB10 := Aside0.mk gb10
                        have GG10 := Aside0.mk HG10
                        clear gb10 gl10 HG10
                        (first | simp only [add_plain] at hx106_0 | skip)
                        obtain ⟨hx10_0, hf10_0⟩ := Kd.R_celln (⟨#[]⟩ : ByteArray) HO_3.out ((ji6) : Int) p10 q10
                        replace p10 := eq_true p10
                        replace q10 := eq_true q10
                        have HP25 := Kd.R_putg HO_3.out ((ji6) : Int) ((rdOf ByteArray.empty x3_1 (ji6)) ++ (rdOf ByteArray.empty l0 x10_1))
                        go_wp2_with (first | ((with_reducible refine gate_store (t := 9) (p := 24) rfl ?_); refine store_event (t := 9) (p := 24) (v := ?vo_w26) (w1 := (wr.setCell ⟨go10, ((ji6) : Int).toNat, none⟩ (.string ((rdOf ByteArray.empty x3_1 (ji6)) ++ (rdOf ByteArray.empty l0 x10_1))))) ?hg ?ho ?hn ?hr ?_; (case ho => rfl); (case hg => rfl); (case hn => rfl); (case hr => first | (go_simp; done) | (go_simp; rfl)); intro w26 hw; have hg : wr.grownBy w26 (some go10) := (by rw [hw]; exact HP25.2); have hp_ : Kd.R Kd.string 9 w26 w.heap.size (fun _ => True) (.slice (some ⟨go10, 0, none⟩) x3_1.length co24) y107 := (by rw [hw, Ny107.out]; exact HP25.1); clear HP25; have n0_ := Aside0.mk (hp_); have n1_ := Aside0.mk ((by rw [hw]; exact below_set (HB.out) GB10.out : Below w.heap.size w w26)); clear HO_3; clear HB; have HO_3 := n0_; have HB := n1_; clear n0_ n1_; clear hg hw hp_; have p108 : 0 ≤ ((ji6) : Int) := of_decide_eq_true (by first | (with_reducible assumption) | assumption); have q108 : (ji6) < (y107.length : Int) := (by have h_ : ((ji6) : Int) < ((x3_1.length : Int) : Int) := of_decide_eq_true (by first | (with_reducible assumption) | assumption); first | (have e_ := (Kd.R_reads' HO_3.out).1; omega) | simpa only [Ny107.out, List.length_set] using h_); have ql108 : (((ji6) : Int) < ((x3_1.length : Int) : Int)) = True := eq_true (of_decide_eq_true (by first | (with_reducible assumption) | assumption)); obtain ⟨ad108, e108, hx108_0⟩ := Kd.at_string (Kd.R_reads' HO_3.out).2.2 (ji6) p108 q108; obtain rfl : (⟨go10, 0, none⟩ : Addr) = ad108 := (by injection e108); (first | simp only [add_plain] at hx108_0 | simp only [add_at] at hx108_0 | simp only [Addr.add, Nat.zero_add] at hx108_0 | skip); replace p108 := eq_true p108; replace q108 := eq_true q108) | (go_at_call 27; (with_reducible refine (strings_TrimRight.calls (rdOf ByteArray.empty y107 (ji6)) (⟨#[92]⟩ : ByteArray) t109 _ A12.out).mono ?_); rintro e w27 ⟨rfl, hb⟩; have n0_ := Aside0.mk (Kd.R_below (by (with_reducible repeat (first | apply Kd.R_alloc | apply Kd.R_drewN | apply Kd.R_drew)); exact HO_3.out) hb); have n1_ := Aside0.mk (below_step (by repeat (first | (with_reducible first | exact HB.out | apply below_alloc | apply pw_below_drewN | apply below_drew1) | exact HB.out)) hb); clear HO_3; clear HB; have HO_3 := n0_; have HB := n1_; clear n0_ n1_; (try clear hb); (try clear hb2); (try clear hk); (try clear hi)))
                        go_roundg k1
                        case measure => have := HK1.out; omega
                        case rel => exact ⟨(y107), (((Int.tmod (wrap64 (((rdOf ByteArray.empty y107 (ji6)).size : Int) - (t109.size : Int))) 2) == 1)), (wrap64 (x10_1 + 1)), (by first | rfl | (simp; done) | (simp only [← hji6] <;> (first | rfl | (simp; done) | (simp [mn, mx]; done))) | (simp [*]; done)), (by first | rfl | (simp; done) | (simp [*]; done)), H', ⟨by have := HK1.out; omega⟩, ⟨by (with_reducible repeat (first | apply Kd.R_alloc | apply Kd.R_drewN | apply Kd.R_drew)); exact HO_3.out⟩, ⟨by repeat (first | (with_reducible first | exact HB.out | apply below_alloc | apply pw_below_drewN | apply below_drew1) | exact HB.out)⟩⟩
                    · rw [if_neg c11] at H
                      have c11b0 : decide ((wrap64 (x10_1 + 1)) < (l0.length : Int)) = false := decide_eq_false c11
                      clear c11
                      have H' := Aside0.mk H
                      clear H
                      have p105 : 0 ≤ (x10_1 : Int) := of_decide_eq_true (by first | (with_reducible assumption) | assumption)
                      have q105 : x10_1 < (l0.length : Int) := of_decide_eq_true (by first | (with_reducible assumption) | assumption)
                      obtain ⟨ad105, e105, hx105_0⟩ := Kd.at_string HR0.out x10_1 p105 q105
                      cases e105
                      replace hx105_0 := (HB.out.cell (World.block_lt_of_cell? w _ hx105_0)).trans hx105_0
                      replace p105 := eq_true p105
                      replace q105 := eq_true q105
                      obtain ⟨Ao28, co28, eo28⟩ := Kd.R_slice HO_3.out
                      subst eo28
                      have p106 : 0 ≤ ((ji6) : Int) := of_decide_eq_true (by first | (with_reducible assumption) | assumption)
                      have q106 : (ji6) < (x3_1.length : Int) := of_decide_eq_true (by first | (with_reducible assumption) | assumption)
                      obtain ⟨ad106, e106, hx106_0⟩ := Kd.at_string (Kd.R_reads' HO_3.out).2.2 (ji6) p106 q106
                      cases e106
                      replace p106 := eq_true p106
                      replace q106 := eq_true q106
                      have p10 : 0 ≤ ((ji6) : Int) := of_decide_eq_true (by first | (with_reducible assumption) | assumption)
                      have q10 : ((ji6) : Int) < ((x3_1.length : Int) : Int) := of_decide_eq_true (by first | (with_reducible assumption) | assumption)
                      obtain ⟨go10, co10, eo10, gb10, gl10, cl10, HG10⟩ := Kd.R_form HO_3.out (by omega)
                      (first | cases eo10 | (injection eo10 with ea_ en_ ec_; (first | subst ea_ | (injection ea_ with ea_; subst ea_)); subst ec_; clear en_))
                      have GB10 := Aside0.mk gb10
                      have GG10 := Aside0.mk HG10
                      clear gb10 gl10 HG10
                      (first | simp only [add_plain] at hx106_0 | skip)
                      obtain ⟨hx10_0, hf10_0⟩ := Kd.R_celln (⟨#[]⟩ : ByteArray) HO_3.out ((ji6) : Int) p10 q10
                      replace p10 := eq_true p10
                      replace q10 := eq_true q10
                      have HP29 := Kd.R_putg HO_3.out ((ji6) : Int) ((rdOf ByteArray.empty x3_1 (ji6)) ++ (rdOf ByteArray.empty l0 x10_1))
                      go_wp2_with (first | ((with_reducible refine gate_store (t := 9) (p := 24) rfl ?_); refine store_event (t := 9) (p := 24) (v := ?vo_w30) (w1 := (wr.setCell ⟨go10, ((ji6) : Int).toNat, none⟩ (.string ((rdOf ByteArray.empty x3_1 (ji6)) ++ (rdOf ByteArray.empty l0 x10_1))))) ?hg ?ho ?hn ?hr ?_; (case ho => rfl); (case hg => rfl); (case hn => rfl); (case hr => first | (go_simp; done) | (go_simp; rfl)); intro w30 hw; have hg : wr.grownBy w30 (some go10) := (by rw [hw]; exact HP29.2); have hp_ : Kd.R Kd.string 9 w30 w.heap.size (fun _ => True) (.slice (some ⟨go10, 0, none⟩) x3_1.length co28) y107 := (by rw [hw, Ny107.out]; exact HP29.1); clear HP29; have n0_ := Aside0.mk (hp_); have n1_ := Aside0.mk ((by rw [hw]; exact below_set (HB.out) GB10.out : Below w.heap.size w w30)); clear HO_3; clear HB; have HO_3 := n0_; have HB := n1_; clear n0_ n1_; clear hg hw hp_; have p108 : 0 ≤ ((ji6) : Int) := of_decide_eq_true (by first | (with_reducible assumption) | assumption); have q108 : (ji6) < (y107.length : Int) := (by have h_ : ((ji6) : Int) < ((x3_1.length : Int) : Int) := of_decide_eq_true (by first | (with_reducible assumption) | assumption); first | (have e_ := (Kd.R_reads' HO_3.out).1; omega) | simpa only [Ny107.out, List.length_set] using h_); have ql108 : (((ji6) : Int) < ((x3_1.length : Int) : Int)) = True := eq_true (of_decide_eq_true (by first | (with_reducible assumption) | assumption)); obtain ⟨ad108, e108, hx108_0⟩ := Kd.at_string (Kd.R_reads' HO_3.out).2.2 (ji6) p108 q108; obtain rfl : (⟨go10, 0, none⟩ : Addr) = ad108 := (by injection e108); (first | simp only [add_plain] at hx108_0 | simp only [add_at] at hx108_0 | simp only [Addr.add, Nat.zero_add] at hx108_0 | skip); replace p108 := eq_true p108; replace q108 := eq_true q108))
                      go_roundg k1
                      case measure => have := HK1.out; omega
                      case rel => exact ⟨(y107), (false), (wrap64 (x10_1 + 1)), (by first | rfl | (simp; done) | (simp [*]; done)), (by first | rfl | (simp; done) | (simp [*]; done)), H', ⟨by have := HK1.out; omega⟩, ⟨by (with_reducible repeat (first | apply Kd.R_alloc | apply Kd.R_drewN | apply Kd.R_drew)); exact HO_3.out⟩, ⟨by repeat (first | (with_reducible first | exact HB.out | apply below_alloc | apply pw_below_drewN | apply below_drew1) | exact HB.out)⟩⟩
                  · rw [if_neg c9] at H
                    exact absurd H (by simp)
                · rw [if_neg c8] at H
                  exact absurd H (by simp)
              · rw [if_neg c7] at H
                exact absurd H (by simp)
            · replace c5 := Bool.eq_false_iff.mpr c5
              subst c5
              have H1 : (if x3_1.length < 8796093022208 then ((some (x3_1 ++ [rdOf ByteArray.empty l0 x10_1] : List ByteArray)).bind fun y111 => (if 0 ≤ (wrap64 ((y111.length : Int) - 1)) then (if (wrap64 ((y111.length : Int) - 1)) < (y111.length : Int) then (if (wrap64 (x10_1 + 1)) < (l0.length : Int) then ((strings_TrimRight.f (rdOf ByteArray.empty y111 (wrap64 ((y111.length : Int) - 1))) (⟨#[92]⟩ : ByteArray)).bind fun t115 => (if (Int.tmod (wrap64 (((rdOf ByteArray.empty y111 (wrap64 ((y111.length : Int) - 1))).size : Int) - (t115.size : Int))) 2) = 1 then (if 0 ≤ (wrap64 (((rdOf ByteArray.empty y111 (wrap64 ((y111.length : Int) - 1))).size : Int) - 1)) then (if (wrap64 (((rdOf ByteArray.empty y111 (wrap64 ((y111.length : Int) - 1))).size : Int) - 1)) ≤ ((rdOf ByteArray.empty y111 (wrap64 ((y111.length : Int) - 1))).size : Int) then (expand_Join.l0 k1 l0 (y111.set ((wrap64 ((y111.length : Int) - 1)) : Int).toNat ((rdOf ByteArray.empty y111 (wrap64 ((y111.length : Int) - 1))).extract 0 ((wrap64 (((rdOf ByteArray.empty y111 (wrap64 ((y111.length : Int) - 1))).size : Int) - 1)) : Int).toNat)) ((Int.tmod (wrap64 (((rdOf ByteArray.empty y111 (wrap64 ((y111.length : Int) - 1))).size : Int) - (t115.size : Int))) 2) == 1) l0 (l0.length : Int) (wrap64 (x10_1 + 1))) else (none)) else (none)) else (expand_Join.l0 k1 l0 y111 ((Int.tmod (wrap64 (((rdOf ByteArray.empty y111 (wrap64 ((y111.length : Int) - 1))).size : Int) - (t115.size : Int))) 2) == 1) l0 (l0.length : Int) (wrap64 (x10_1 + 1))))) else (expand_Join.l0 k1 l0 y111 false l0 (l0.length : Int) (wrap64 (x10_1 + 1)))) else (none)) else (none))) else (none)) = some r := by rw [if_neg (show ¬ (false = true) by decide)] at H; exact H
              clear H
              have H := H1
              clear H1
              by_cases c31 : x3_1.length < 8796093022208
              · rw [if_pos c31] at H
                have LMc31 := Aside0.mk c31
                clear c31
                obtain ⟨y111, hy111⟩ : ∃ y_ : List ByteArray, y_ = (x3_1 ++ [rdOf ByteArray.empty l0 x10_1]) := ⟨_, rfl⟩
                replace H : (if 0 ≤ (wrap64 ((y111.length : Int) - 1)) then (if (wrap64 ((y111.length : Int) - 1)) < (y111.length : Int) then (if (wrap64 (x10_1 + 1)) < (l0.length : Int) then ((strings_TrimRight.f (rdOf ByteArray.empty y111 (wrap64 ((y111.length : Int) - 1))) (⟨#[92]⟩ : ByteArray)).bind fun t115 => (if (Int.tmod (wrap64 (((rdOf ByteArray.empty y111 (wrap64 ((y111.length : Int) - 1))).size : Int) - (t115.size : Int))) 2) = 1 then (if 0 ≤ (wrap64 (((rdOf ByteArray.empty y111 (wrap64 ((y111.length : Int) - 1))).size : Int) - 1)) then (if (wrap64 (((rdOf ByteArray.empty y111 (wrap64 ((y111.length : Int) - 1))).size : Int) - 1)) ≤ ((rdOf ByteArray.empty y111 (wrap64 ((y111.length : Int) - 1))).size : Int) then (expand_Join.l0 k1 l0 (y111.set ((wrap64 ((y111.length : Int) - 1)) : Int).toNat ((rdOf ByteArray.empty y111 (wrap64 ((y111.length : Int) - 1))).extract 0 ((wrap64 (((rdOf ByteArray.empty y111 (wrap64 ((y111.length : Int) - 1))).size : Int) - 1)) : Int).toNat)) ((Int.tmod (wrap64 (((rdOf ByteArray.empty y111 (wrap64 ((y111.length : Int) - 1))).size : Int) - (t115.size : Int))) 2) == 1) l0 (l0.length : Int) (wrap64 (x10_1 + 1))) else (none)) else (none)) else (expand_Join.l0 k1 l0 y111 ((Int.tmod (wrap64 (((rdOf ByteArray.empty y111 (wrap64 ((y111.length : Int) - 1))).size : Int) - (t115.size : Int))) 2) == 1) l0 (l0.length : Int) (wrap64 (x10_1 + 1))))) else (expand_Join.l0 k1 l0 y111 false l0 (l0.length : Int) (wrap64 (x10_1 + 1)))) else (none)) else (none)) = some r := by first | (rw [hy111]; with_reducible exact H) | (have H2_ := (Option.bind_some _ _).symm.trans H; rw [hy111]; with_reducible exact H2_) | (have H2_ := (Option.bind_some _ _).symm.trans H; with_reducible exact H2_) | with_reducible exact H | (rw [hy111]; exact H) | exact H
                have Ny111 := Aside0.mk hy111
                clear hy111
                obtain ⟨ji32, hji32⟩ : ∃ j_ : Int, (wrap64 ((y111.length : Int) - 1)) = j_ := ⟨_, rfl⟩
                replace H : (if 0 ≤ (ji32) then (if (ji32) < (y111.length : Int) then (if (wrap64 (x10_1 + 1)) < (l0.length : Int) then ((strings_TrimRight.f (rdOf ByteArray.empty y111 (ji32)) (⟨#[92]⟩ : ByteArray)).bind fun t115 => (if (Int.tmod (wrap64 (((rdOf ByteArray.empty y111 (ji32)).size : Int) - (t115.size : Int))) 2) = 1 then (if 0 ≤ (wrap64 (((rdOf ByteArray.empty y111 (ji32)).size : Int) - 1)) then (if (wrap64 (((rdOf ByteArray.empty y111 (ji32)).size : Int) - 1)) ≤ ((rdOf ByteArray.empty y111 (ji32)).size : Int) then (expand_Join.l0 k1 l0 (y111.set ((ji32) : Int).toNat ((rdOf ByteArray.empty y111 (ji32)).extract 0 ((wrap64 (((rdOf ByteArray.empty y111 (ji32)).size : Int) - 1)) : Int).toNat)) ((Int.tmod (wrap64 (((rdOf ByteArray.empty y111 (ji32)).size : Int) - (t115.size : Int))) 2) == 1) l0 (l0.length : Int) (wrap64 (x10_1 + 1))) else (none)) else (none)) else (expand_Join.l0 k1 l0 y111 ((Int.tmod (wrap64 (((rdOf ByteArray.empty y111 (ji32)).size : Int) - (t115.size : Int))) 2) == 1) l0 (l0.length : Int) (wrap64 (x10_1 + 1))))) else (expand_Join.l0 k1 l0 y111 false l0 (l0.length : Int) (wrap64 (x10_1 + 1)))) else (none)) else (none)) = some r := by first | (rw [hji32] at H; exact H) | (simp only [hji32] at H ⊢; exact H)
                have hji32w : (IntKind.i64.wrap ((y111.length : Int) - 1)) = ji32 := (i64_w _).trans hji32
                by_cases c33 : 0 ≤ (ji32)
                · rw [if_pos c33] at H
                  have c33b0 : decide (0 ≤ (ji32)) = true := decide_eq_true c33
                  clear c33
                  by_cases c34 : (ji32) < (y111.length : Int)
                  · rw [if_pos c34] at H
                    have c34b0 : decide ((ji32) < (y111.length : Int)) = true := decide_eq_true c34
                    clear c34
                    by_cases c35 : (wrap64 (x10_1 + 1)) < (l0.length : Int)
                    · rw [if_pos c35] at H
                      have c35b0 : decide ((wrap64 (x10_1 + 1)) < (l0.length : Int)) = true := decide_eq_true c35
                      clear c35
                      replace H := Option.bind_eq_some_iff.mp H
                      obtain ⟨t115, A360, H⟩ := H
                      replace H : (if (Int.tmod (wrap64 (((rdOf ByteArray.empty y111 (ji32)).size : Int) - (t115.size : Int))) 2) = 1 then (if 0 ≤ (wrap64 (((rdOf ByteArray.empty y111 (ji32)).size : Int) - 1)) then (if (wrap64 (((rdOf ByteArray.empty y111 (ji32)).size : Int) - 1)) ≤ ((rdOf ByteArray.empty y111 (ji32)).size : Int) then (expand_Join.l0 k1 l0 (y111.set ((ji32) : Int).toNat ((rdOf ByteArray.empty y111 (ji32)).extract 0 ((wrap64 (((rdOf ByteArray.empty y111 (ji32)).size : Int) - 1)) : Int).toNat)) ((Int.tmod (wrap64 (((rdOf ByteArray.empty y111 (ji32)).size : Int) - (t115.size : Int))) 2) == 1) l0 (l0.length : Int) (wrap64 (x10_1 + 1))) else (none)) else (none)) else (expand_Join.l0 k1 l0 y111 ((Int.tmod (wrap64 (((rdOf ByteArray.empty y111 (ji32)).size : Int) - (t115.size : Int))) 2) == 1) l0 (l0.length : Int) (wrap64 (x10_1 + 1)))) = some r := H
                      have A36 := Aside0.mk A360
                      clear A360
                      by_cases c37 : (Int.tmod (wrap64 (((rdOf ByteArray.empty y111 (ji32)).size : Int) - (t115.size : Int))) 2) = 1
                      · rw [if_pos c37] at H
                        have c37b0 : ((Int.tmod (wrap64 (((rdOf ByteArray.empty y111 (ji32)).size : Int) - (t115.size : Int))) 2) == 1) = true := beq_iff_eq.mpr c37
                        have c37b1 : ((Int.tmod (wrap64 (((rdOf ByteArray.empty y111 (ji32)).size : Int) - (t115.size : Int))) 2) != 1) = false := bne_eq_false_iff_eq.mpr c37
                        clear c37
                        obtain ⟨ji38, hji38⟩ : ∃ j_ : Int, (wrap64 (((rdOf ByteArray.empty y111 (ji32)).size : Int) - 1)) = j_ := ⟨_, rfl⟩
                        replace H : (if 0 ≤ (ji38) then (if (ji38) ≤ ((rdOf ByteArray.empty y111 (ji32)).size : Int) then (expand_Join.l0 k1 l0 (y111.set ((ji32) : Int).toNat ((rdOf ByteArray.empty y111 (ji32)).extract 0 ((ji38) : Int).toNat)) ((Int.tmod (wrap64 (((rdOf ByteArray.empty y111 (ji32)).size : Int) - (t115.size : Int))) 2) == 1) l0 (l0.length : Int) (wrap64 (x10_1 + 1))) else (none)) else (none)) = some r := by first | (rw [hji38] at H; exact H) | (simp only [hji38] at H ⊢; exact H)
                        (try rw [hji38] at A36)
                        have hji38w : (IntKind.i64.wrap (((rdOf ByteArray.empty y111 (ji32)).size : Int) - 1)) = ji38 := (i64_w _).trans hji38
                        by_cases c39 : 0 ≤ (ji38)
                        · rw [if_pos c39] at H
                          have c39b0 := eq_true c39
                          have c39b1 : decide (0 ≤ (ji38)) = true := decide_eq_true c39
                          clear c39
                          by_cases c40 : (ji38) ≤ ((rdOf ByteArray.empty y111 (ji32)).size : Int)
                          · rw [if_pos c40] at H
                            have c40b0 := eq_true c40
                            have c40b1 : decide ((ji38) ≤ ((rdOf ByteArray.empty y111 (ji32)).size : Int)) = true := decide_eq_true c40
                            clear c40
                            obtain ⟨y116, hy116⟩ : ∃ y_ : List ByteArray, y_ = (y111.set ((ji32) : Int).toNat ((rdOf ByteArray.empty y111 (ji32)).extract 0 ((ji38) : Int).toNat)) := ⟨_, rfl⟩
                            replace H : (expand_Join.l0 k1 l0 y116 ((Int.tmod (wrap64 (((rdOf ByteArray.empty y111 (ji32)).size : Int) - (t115.size : Int))) 2) == 1) l0 (l0.length : Int) (wrap64 (x10_1 + 1))) = some r := by first | (rw [hy116]; with_reducible exact H) | (have H2_ := (Option.bind_some _ _).symm.trans H; rw [hy116]; with_reducible exact H2_) | (have H2_ := (Option.bind_some _ _).symm.trans H; with_reducible exact H2_) | with_reducible exact H | (rw [hy116]; exact H) | exact H
                            have Ny116 := Aside0.mk hy116
                            clear hy116
                            have H' := Aside0.mk H
                            clear H
                            have p105 : 0 ≤ (x10_1 : Int) := of_decide_eq_true (by first | (with_reducible assumption) | assumption)
                            have q105 : x10_1 < (l0.length : Int) := of_decide_eq_true (by first | (with_reducible assumption) | assumption)
                            obtain ⟨ad105, e105, hx105_0⟩ := Kd.at_string HR0.out x10_1 p105 q105
                            cases e105
                            replace hx105_0 := (HB.out.cell (World.block_lt_of_cell? w _ hx105_0)).trans hx105_0
                            replace p105 := eq_true p105
                            replace q105 := eq_true q105
                            go_wp2_with (first | ((with_reducible refine gate_builtin (b := .append) (xs := #[.tmp 25, .tmp 27]) rfl ?_); (try (refine gate_guard (by rfl) ?_; dsimp only)); at_builtin; refine Kd.R_append Kd.string (w0 := w) w.heap.size rfl (.tmp 25) (.tmp 27) 29 9 (.string ⟨#[]⟩) 16 rfl Tryd.underlying29 info9 rfl (by decide) (by omega) u3 x3_1 (rdOf ByteArray.empty l0 x10_1) [.string (rdOf ByteArray.empty l0 x10_1)] (fun _ => True) (fun _ => False) rfl rfl ?aP (fun _ hk => hk.elim) ?aF ?aO ?aB ?aS ?aL ?_; (case aP => exact rfl); (case aB => exact (by repeat (first | (with_reducible first | exact HB.out | apply below_alloc | apply pw_below_drewN | apply below_drew1) | exact HB.out))); (case aF => exact (fun _ _ => trivial)); (case aO => exact (by (with_reducible repeat (first | apply Kd.R_alloc | apply Kd.R_drewN | apply Kd.R_drew)); exact HO_3.out)); (case aS => exact (below_size (by repeat (first | (with_reducible first | exact HB.out | apply below_alloc | apply pw_below_drewN | apply below_drew1) | exact HB.out)))); (case aL => have := LMc31.out; omega); intro v112 w42 ho hb hg hat; rw [← Ny111.out] at ho; have n0_ := Aside0.mk (hb); have n1_ := Aside0.mk (ho); clear HB; clear HO_3; have HB := n0_; have HO113 := n1_; clear n0_ n1_; clear ho hb hg hat; obtain ⟨Ao43, co43, eo43⟩ := Kd.R_slice HO113.out; subst eo43; have p114 : 0 ≤ ((ji32) : Int) := of_decide_eq_true (by first | (with_reducible assumption) | assumption); have q114 : (ji32) < (y111.length : Int) := of_decide_eq_true (by first | (with_reducible assumption) | assumption); obtain ⟨ad114, e114, hx114_0⟩ := Kd.at_string (Kd.R_reads' HO113.out).2.2 (ji32) p114 q114; cases e114; replace p114 := eq_true p114; replace q114 := eq_true q114) | (go_at_call 27; (with_reducible refine (strings_TrimRight.calls (rdOf ByteArray.empty y111 (ji32)) (⟨#[92]⟩ : ByteArray) t115 _ A36.out).mono ?_); rintro e w44 ⟨rfl, hb⟩; have n0_ := Aside0.mk (Kd.R_below (by (with_reducible repeat (first | apply Kd.R_alloc | apply Kd.R_drewN | apply Kd.R_drew)); exact HO113.out) hb); have n1_ := Aside0.mk (below_step (by repeat (first | (with_reducible first | exact HB.out | apply below_alloc | apply pw_below_drewN | apply below_drew1) | exact HB.out)) hb); clear HO113; clear HB; have HO113 := n0_; have HB := n1_; clear n0_ n1_; (try clear hb); (try clear hb2); (try clear hk); (try clear hi); have p41 : 0 ≤ ((ji32) : Int) := of_decide_eq_true (by first | (with_reducible assumption) | assumption); have q41 : ((ji32) : Int) < ((y111.length : Int) : Int) := of_decide_eq_true (by first | (with_reducible assumption) | assumption); obtain ⟨go41, co41, eo41, gb41, gl41, cl41, HG41⟩ := Kd.R_form HO113.out (by omega); (first | cases eo41 | (injection eo41 with ea_ en_ ec_; (first | subst ea_ | (injection ea_ with ea_; subst ea_)); subst ec_; clear en_)); have GB41 := Aside0.mk gb41; have GG41 := Aside0.mk HG41; clear gb41 gl41 HG41; (first | simp only [add_plain] at hx114_0 | skip); obtain ⟨hx41_0, hf41_0⟩ := Kd.R_celln (⟨#[]⟩ : ByteArray) HO113.out ((ji32) : Int) p41 q41; replace p41 := eq_true p41; replace q41 := eq_true q41; obtain ⟨hy45_, hz45_⟩ := Kd.R_celln (⟨#[]⟩ : ByteArray) HO113.out ((ji32) : Int) (of_decide_eq_true (by first | (with_reducible assumption) | assumption)) (of_decide_eq_true (by first | (with_reducible assumption) | assumption)); have HP45 := Kd.R_putg HO113.out ((ji32) : Int) ((rdOf ByteArray.empty y111 (ji32)).extract 0 ((ji38) : Int).toNat)) | ((with_reducible refine gate_store (t := 9) (p := 60) rfl ?_); refine store_event (t := 9) (p := 60) (v := ?vo_w46) (w1 := (w44.setCell ⟨go41, ((ji32) : Int).toNat, none⟩ (.string ((rdOf ByteArray.empty y111 (ji32)).extract 0 ((ji38) : Int).toNat)))) ?hg ?ho ?hn ?hr ?_; (case ho => rfl); (case hg => rfl); (case hn => rfl); (case hr => first | (go_simp; done) | (go_simp; rfl)); intro w46 hw; have hg : w44.grownBy w46 (some go41) := (by rw [hw]; exact HP45.2); have hp_ : Kd.R Kd.string 9 w46 w.heap.size (fun _ => True) (.slice (some ⟨go41, 0, none⟩) y111.length co43) y116 := (by rw [hw, Ny116.out]; exact HP45.1); clear HP45; have n0_ := Aside0.mk (hp_); have n1_ := Aside0.mk ((by rw [hw]; exact below_set (HB.out) GB41.out : Below w.heap.size w w46)); clear HO113; clear HB; have HO113 := n0_; have HB := n1_; clear n0_ n1_; clear hg hw hp_))
                            go_roundg k1
                            case measure => have := HK1.out; omega
                            case rel => exact ⟨(y116), (((Int.tmod (wrap64 (((rdOf ByteArray.empty y111 (ji32)).size : Int) - (t115.size : Int))) 2) == 1)), (wrap64 (x10_1 + 1)), (by first | rfl | (simp; done) | (simp only [← hji32] <;> (first | rfl | (simp; done) | (simp [mn, mx]; done))) | (simp [*]; done)), (by first | rfl | (simp; done) | (simp [*]; done)), H', ⟨by have := HK1.out; omega⟩, ⟨by (with_reducible repeat (first | apply Kd.R_alloc | apply Kd.R_drewN | apply Kd.R_drew)); exact HO113.out⟩, ⟨by repeat (first | (with_reducible first | exact HB.out | apply below_alloc | apply pw_below_drewN | apply below_drew1) | exact HB.out)⟩⟩
                          · rw [if_neg c40] at H
                            exact absurd H (by simp)
                        · rw [if_neg c39] at H
                          exact absurd H (by simp)
                      · rw [if_neg c37] at H
                        have c37b0 : ((Int.tmod (wrap64 (((rdOf ByteArray.empty y111 (ji32)).size : Int) - (t115.size : Int))) 2) == 1) = false := beq_eq_false_iff_ne.mpr c37
                        have c37b1 : ((Int.tmod (wrap64 (((rdOf ByteArray.empty y111 (ji32)).size : Int) - (t115.size : Int))) 2) != 1) = true := bne_iff_ne.mpr c37
                        have H' := Aside0.mk H
                        clear H
                        have p105 : 0 ≤ (x10_1 : Int) := of_decide_eq_true (by first | (with_reducible assumption) | assumption)
                        have q105 : x10_1 < (l0.length : Int) := of_decide_eq_true (by first | (with_reducible assumption) | assumption)
                        obtain ⟨ad105, e105, hx105_0⟩ := Kd.at_string HR0.out x10_1 p105 q105
                        cases e105
                        replace hx105_0 := (HB.out.cell (World.block_lt_of_cell? w _ hx105_0)).trans hx105_0
                        replace p105 := eq_true p105
                        replace q105 := eq_true q105
                        go_wp2_with (first | ((with_reducible refine gate_builtin (b := .append) (xs := #[.tmp 25, .tmp 27]) rfl ?_); (try (refine gate_guard (by rfl) ?_; dsimp only)); at_builtin; refine Kd.R_append Kd.string (w0 := w) w.heap.size rfl (.tmp 25) (.tmp 27) 29 9 (.string ⟨#[]⟩) 16 rfl Tryd.underlying29 info9 rfl (by decide) (by omega) u3 x3_1 (rdOf ByteArray.empty l0 x10_1) [.string (rdOf ByteArray.empty l0 x10_1)] (fun _ => True) (fun _ => False) rfl rfl ?aP (fun _ hk => hk.elim) ?aF ?aO ?aB ?aS ?aL ?_; (case aP => exact rfl); (case aB => exact (by repeat (first | (with_reducible first | exact HB.out | apply below_alloc | apply pw_below_drewN | apply below_drew1) | exact HB.out))); (case aF => exact (fun _ _ => trivial)); (case aO => exact (by (with_reducible repeat (first | apply Kd.R_alloc | apply Kd.R_drewN | apply Kd.R_drew)); exact HO_3.out)); (case aS => exact (below_size (by repeat (first | (with_reducible first | exact HB.out | apply below_alloc | apply pw_below_drewN | apply below_drew1) | exact HB.out)))); (case aL => have := LMc31.out; omega); intro v112 w47 ho hb hg hat; rw [← Ny111.out] at ho; have n0_ := Aside0.mk (hb); have n1_ := Aside0.mk (ho); clear HB; clear HO_3; have HB := n0_; have HO113 := n1_; clear n0_ n1_; clear ho hb hg hat; obtain ⟨Ao48, co48, eo48⟩ := Kd.R_slice HO113.out; subst eo48; have p114 : 0 ≤ ((ji32) : Int) := of_decide_eq_true (by first | (with_reducible assumption) | assumption); have q114 : (ji32) < (y111.length : Int) := of_decide_eq_true (by first | (with_reducible assumption) | assumption); obtain ⟨ad114, e114, hx114_0⟩ := Kd.at_string (Kd.R_reads' HO113.out).2.2 (ji32) p114 q114; cases e114; replace p114 := eq_true p114; replace q114 := eq_true q114) | (go_at_call 27; (with_reducible refine (strings_TrimRight.calls (rdOf ByteArray.empty y111 (ji32)) (⟨#[92]⟩ : ByteArray) t115 _ A36.out).mono ?_); rintro e w49 ⟨rfl, hb⟩; have n0_ := Aside0.mk (Kd.R_below (by (with_reducible repeat (first | apply Kd.R_alloc | apply Kd.R_drewN | apply Kd.R_drew)); exact HO113.out) hb); have n1_ := Aside0.mk (below_step (by repeat (first | (with_reducible first | exact HB.out | apply below_alloc | apply pw_below_drewN | apply below_drew1) | exact HB.out)) hb); clear HO113; clear HB; have HO113 := n0_; have HB := n1_; clear n0_ n1_; (try clear hb); (try clear hb2); (try clear hk); (try clear hi)))
                        go_roundg k1
                        case measure => have := HK1.out; omega
                        case rel => exact ⟨(y111), (((Int.tmod (wrap64 (((rdOf ByteArray.empty y111 (ji32)).size : Int) - (t115.size : Int))) 2) == 1)), (wrap64 (x10_1 + 1)), (by first | rfl | (simp; done) | (simp only [← hji32] <;> (first | rfl | (simp; done) | (simp [mn, mx]; done))) | (simp [*]; done)), (by first | rfl | (simp; done) | (simp [*]; done)), H', ⟨by have := HK1.out; omega⟩, ⟨by (with_reducible repeat (first | apply Kd.R_alloc | apply Kd.R_drewN | apply Kd.R_drew)); exact HO113.out⟩, ⟨by repeat (first | (with_reducible first | exact HB.out | apply below_alloc | apply pw_below_drewN | apply below_drew1) | exact HB.out)⟩⟩
                    · rw [if_neg c35] at H
                      have c35b0 : decide ((wrap64 (x10_1 + 1)) < (l0.length : Int)) = false := decide_eq_false c35
                      clear c35
                      have H' := Aside0.mk H
                      clear H
                      have p105 : 0 ≤ (x10_1 : Int) := of_decide_eq_true (by first | (with_reducible assumption) | assumption)
                      have q105 : x10_1 < (l0.length : Int) := of_decide_eq_true (by first | (with_reducible assumption) | assumption)
                      obtain ⟨ad105, e105, hx105_0⟩ := Kd.at_string HR0.out x10_1 p105 q105
                      cases e105
                      replace hx105_0 := (HB.out.cell (World.block_lt_of_cell? w _ hx105_0)).trans hx105_0
                      replace p105 := eq_true p105
                      replace q105 := eq_true q105
                      go_wp2_with (first | ((with_reducible refine gate_builtin (b := .append) (xs := #[.tmp 25, .tmp 27]) rfl ?_); (try (refine gate_guard (by rfl) ?_; dsimp only)); at_builtin; refine Kd.R_append Kd.string (w0 := w) w.heap.size rfl (.tmp 25) (.tmp 27) 29 9 (.string ⟨#[]⟩) 16 rfl Tryd.underlying29 info9 rfl (by decide) (by omega) u3 x3_1 (rdOf ByteArray.empty l0 x10_1) [.string (rdOf ByteArray.empty l0 x10_1)] (fun _ => True) (fun _ => False) rfl rfl ?aP (fun _ hk => hk.elim) ?aF ?aO ?aB ?aS ?aL ?_; (case aP => exact rfl); (case aB => exact (by repeat (first | (with_reducible first | exact HB.out | apply below_alloc | apply pw_below_drewN | apply below_drew1) | exact HB.out))); (case aF => exact (fun _ _ => trivial)); (case aO => exact (by (with_reducible repeat (first | apply Kd.R_alloc | apply Kd.R_drewN | apply Kd.R_drew)); exact HO_3.out)); (case aS => exact (below_size (by repeat (first | (with_reducible first | exact HB.out | apply below_alloc | apply pw_below_drewN | apply below_drew1) | exact HB.out)))); (case aL => have := LMc31.out; omega); intro v112 w50 ho hb hg hat; rw [← Ny111.out] at ho; have n0_ := Aside0.mk (hb); have n1_ := Aside0.mk (ho); clear HB; clear HO_3; have HB := n0_; have HO113 := n1_; clear n0_ n1_; clear ho hb hg hat; obtain ⟨Ao51, co51, eo51⟩ := Kd.R_slice HO113.out; subst eo51; have p114 : 0 ≤ ((ji32) : Int) := of_decide_eq_true (by first | (with_reducible assumption) | assumption); have q114 : (ji32) < (y111.length : Int) := of_decide_eq_true (by first | (with_reducible assumption) | assumption); obtain ⟨ad114, e114, hx114_0⟩ := Kd.at_string (Kd.R_reads' HO113.out).2.2 (ji32) p114 q114; cases e114; replace p114 := eq_true p114; replace q114 := eq_true q114))
                      go_roundg k1
                      case measure => have := HK1.out; omega
                      case rel => exact ⟨(y111), (false), (wrap64 (x10_1 + 1)), (by first | rfl | (simp; done) | (simp [*]; done)), (by first | rfl | (simp; done) | (simp [*]; done)), H', ⟨by have := HK1.out; omega⟩, ⟨by (with_reducible repeat (first | apply Kd.R_alloc | apply Kd.R_drewN | apply Kd.R_drew)); exact HO113.out⟩, ⟨by repeat (first | (with_reducible first | exact HB.out | apply below_alloc | apply pw_below_drewN | apply below_drew1) | exact HB.out)⟩⟩
                  · rw [if_neg c34] at H
                    exact absurd H (by simp)
                · rw [if_neg c33] at H
                  exact absurd H (by simp)
              · rw [if_neg c31] at H
                exact absurd H (by simp)
          · rw [if_neg c4] at H
            exact absurd H (by simp)
        · rw [if_neg c3] at H
          exact absurd H (by simp)
      · rw [if_neg c2] at H
        have c2b0 : decide (x10_1 < (l0.length : Int)) = false := decide_eq_false c2
        clear c2
        obtain rfl := Option.some.inj H
        go_wp2
        go_ret
        exact ⟨_, by first | rfl | (simp [errW_none, errW_some] <;> rfl) | (simp [*, errW_none, errW_some] <;> rfl), by (with_reducible repeat (first | apply Kd.R_alloc | apply Kd.R_drewN | apply Kd.R_drew)); exact HO_3.out, by repeat (first | (with_reducible first | exact HB.out | apply below_alloc | apply pw_below_drewN | apply below_drew1) | exact HB.out)⟩

/-! ### frisketref04_odd: function 28 -/
def frisketref04_odd.l0 : Nat → ByteArray → Int → Option (Bool)
  | 0, _, _ => none
  | k + 1, x0, x3 => if x3 < (x0.size : Int) then (if 0 ≤ (wrap64 ((wrap64 ((x0.size : Int) - 1)) - x3)) then (if (wrap64 ((wrap64 ((x0.size : Int) - 1)) - x3)) < (x0.size : Int) then (if (bt x0 (wrap64 ((wrap64 ((x0.size : Int) - 1)) - x3))) = 92 then (frisketref04_odd.l0 k x0 (wrap64 (x3 + 1))) else (some ((Int.tmod x3 2) == 1))) else (none)) else (none)) else (some ((Int.tmod x3 2) == 1))
def frisketref04_odd.f (k : Nat) (a0 : ByteArray) : Option (Bool) := frisketref04_odd.l0 k a0 0
theorem frisketref04_odd.mono_l : ∀ k, (∀ y0 y1, LeO (frisketref04_odd.l0 k y0 y1) (frisketref04_odd.l0 (k + 1) y0 y1))
  | 0 => fun _ _ r h => by simp [frisketref04_odd.l0] at h
  | k + 1 => by
    have ih0 := frisketref04_odd.mono_l k
    · intro y0 y1
      unfold frisketref04_odd.l0
      repeat' first
      | (with_reducible exact ih0 _ _)
      | (with_reducible exact LeO.refl _)
      | (with_reducible exact LeO.none _)
      | (with_reducible refine LeO.ite ?_ ?_)
      | (with_reducible refine LeO.bind ?_ (fun _ => ?_))
      | exact ih0 _ _
      | exact LeO.none _
      | refine LeO.ite ?_ ?_
      | refine LeO.bind ?_ (fun _ => ?_)
theorem frisketref04_odd.mono : ∀ a0 k, LeO (frisketref04_odd.f k a0) (frisketref04_odd.f (k + 1) a0) := by
  intro a0 k
  have ih0 := frisketref04_odd.mono_l k
  unfold frisketref04_odd.f
  repeat' first
      | (with_reducible exact ih0 _ _)
      | (with_reducible exact LeO.refl _)
      | (with_reducible exact LeO.none _)
      | (with_reducible refine LeO.ite ?_ ?_)
      | (with_reducible refine LeO.bind ?_ (fun _ => ?_))
      | exact ih0 _ _
      | exact LeO.none _
      | refine LeO.ite ?_ ?_
      | refine LeO.bind ?_ (fun _ => ?_)
set_option maxHeartbeats 8000000 in
set_option maxRecDepth 100000 in
theorem frisketref04_odd.calls (k : Nat) (a0 : ByteArray) (r : Bool) (w : World) (h : frisketref04_odd.f k a0 = some r) :
    Calls Tryd.prog 28 #[.string a0] w fun e w' => e = .returned (.bool r) ∧ Drawn0 w w' := by
  have H : (frisketref04_odd.l0 k a0 0) = some r := h
  clear h
  have H' := Aside0.mk H
  clear H
  go_enter Tryd.func28, Tryd.ntmps28
  go_wp2
  go_loopg [3] k (fun kq v3 w' => ∃ (x3_1 : Int), v3 = .int .i64 x3_1 ∧ Aside0 (frisketref04_odd.l0 kq a0 x3_1 = some r) ∧ Aside0 (kq ≤ k) ∧ Drawn0 w w')
  case atStart => exact ⟨(0), (by first | rfl | (simp; done) | (simp [*]; done)), H', ⟨Nat.le_refl _⟩, by repeat (first | exact Drawn0.refl _ | apply Drawn0.step)⟩
  case round =>
    clear H'
    obtain ⟨x3_1, rfl, HA, HK1, ⟨m1, rfl⟩⟩ := hrel
    cases gk with
    | zero => exact absurd HA.out (by simp [frisketref04_odd.l0])
    | succ k1 =>
      have H := HA.out
      clear HA
      simp only [frisketref04_odd.l0] at H
      by_cases c2 : x3_1 < (a0.size : Int)
      · rw [if_pos c2] at H
        have c2b0 : decide (x3_1 < (a0.size : Int)) = true := decide_eq_true c2
        clear c2
        obtain ⟨ji3, hji3⟩ : ∃ j_ : Int, (wrap64 ((wrap64 ((a0.size : Int) - 1)) - x3_1)) = j_ := ⟨_, rfl⟩
        replace H : (if 0 ≤ (ji3) then (if (ji3) < (a0.size : Int) then (if (bt a0 (ji3)) = 92 then (frisketref04_odd.l0 k1 a0 (wrap64 (x3_1 + 1))) else (some ((Int.tmod x3_1 2) == 1))) else (none)) else (none)) = some r := by first | (rw [hji3] at H; exact H) | (simp only [hji3] at H ⊢; exact H)
        have hji3w : (IntKind.i64.wrap ((wrap64 ((a0.size : Int) - 1)) - x3_1)) = ji3 := (i64_w _).trans hji3
        by_cases c4 : 0 ≤ (ji3)
        · rw [if_pos c4] at H
          have c4b0 : decide (0 ≤ (ji3)) = true := decide_eq_true c4
          clear c4
          by_cases c5 : (ji3) < (a0.size : Int)
          · rw [if_pos c5] at H
            have c5b0 : decide ((ji3) < (a0.size : Int)) = true := decide_eq_true c5
            clear c5
            by_cases c7 : (bt a0 (ji3)) = 92
            · rw [if_pos c7] at H
              have c7b0 : ((bt a0 (ji3)) == 92) = true := beq_iff_eq.mpr c7
              have c7b1 : ((bt a0 (ji3)) != 92) = false := bne_eq_false_iff_eq.mpr c7
              clear c7
              have H' := Aside0.mk H
              clear H
              have p6 : 0 ≤ ((ji3) : Int) := of_decide_eq_true (by first | (with_reducible assumption) | assumption)
              have q6 : (ji3) < (a0.size : Int) := of_decide_eq_true (by first | (with_reducible assumption) | assumption)
              have hx6 := bt_at a0 (ji3)
              replace p6 := eq_true p6
              replace q6 := eq_true q6
              go_wp2
              go_roundg k1
              case measure => have := HK1.out; omega
              case rel => exact ⟨(wrap64 (x3_1 + 1)), (by first | rfl | (simp; done) | (simp [*]; done)), H', ⟨by have := HK1.out; omega⟩, by repeat (first | exact Drawn0.refl _ | apply Drawn0.step)⟩
            · rw [if_neg c7] at H
              have c7b0 : ((bt a0 (ji3)) == 92) = false := beq_eq_false_iff_ne.mpr c7
              have c7b1 : ((bt a0 (ji3)) != 92) = true := bne_iff_ne.mpr c7
              obtain rfl := Option.some.inj H
              have p6 : 0 ≤ ((ji3) : Int) := of_decide_eq_true (by first | (with_reducible assumption) | assumption)
              have q6 : (ji3) < (a0.size : Int) := of_decide_eq_true (by first | (with_reducible assumption) | assumption)
              have hx6 := bt_at a0 (ji3)
              replace p6 := eq_true p6
              replace q6 := eq_true q6
              go_wp2
              go_ret
              exact ⟨by first | rfl | (simp; done) | (simp only [← hji3] <;> (first | rfl | (simp; done) | (simp [mn, mx]; done))) | (simp [*]; done), by repeat (first | exact Drawn0.refl _ | apply Drawn0.step)⟩
          · rw [if_neg c5] at H
            exact absurd H (by simp)
        · rw [if_neg c4] at H
          exact absurd H (by simp)
      · rw [if_neg c2] at H
        have c2b0 : decide (x3_1 < (a0.size : Int)) = false := decide_eq_false c2
        clear c2
        obtain rfl := Option.some.inj H
        go_wp2
        go_ret
        exact ⟨by first | rfl | (simp; done) | (simp [*]; done), by repeat (first | exact Drawn0.refl _ | apply Drawn0.step)⟩

end Go.Proofs.YtpflnhbhgcediaaDoor.QJo
