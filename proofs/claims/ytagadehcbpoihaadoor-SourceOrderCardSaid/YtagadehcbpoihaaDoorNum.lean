/- Whole numbers as the machine reckons with them: no wrap where nothing runs over; division that rounds to nought against division that rounds down. -/
import Derived.Test.YtagadehcbpoihaaDoorWLast
import Derived.Test.YtagadehcbpoihaaDoorWMore
namespace Go.Proofs.YtagadehcbpoihaaDoorN
open Go.RowKit Go.Proofs.YtagadehcbpoihaaDoorW.PrintWords Go.Proofs.YtagadehcbpoihaaDoorW.PrintLast Go.Proofs.YtagadehcbpoihaaDoorW.PrintMore

theorem w64 {x : Int} (h0 : -9223372036854775808 ≤ x) (h1 : x ≤ 9223372036854775807) : wrap64 x = x := by
  unfold wrap64
  omega
theorem w64_range (x : Int) : -9223372036854775808 ≤ wrap64 x ∧ wrap64 x ≤ 9223372036854775807 := by
  unfold wrap64
  omega
theorem u64_eq (x : Int) : IntKind.u64.wrap x = x % 18446744073709551616 := by simp [IntKind.wrap, IntKind.signed, IntKind.bits]
theorem u64_range (x : Int) : 0 ≤ IntKind.u64.wrap x ∧ IntKind.u64.wrap x < 18446744073709551616 := by
  rw [u64_eq]
  omega
theorem i64_wf {x : Int} : (Lit.int .i64 x).wf = true ↔ -9223372036854775808 ≤ x ∧ x ≤ 9223372036854775807 := by
  simp [Lit.wf, IntKind.min, IntKind.max, IntKind.signed, IntKind.bits]
theorem u8_wf {x : Int} : (Lit.int .u8 x).wf = true ↔ 0 ≤ x ∧ x ≤ 255 := by
  simp [Lit.wf, IntKind.min, IntKind.max, IntKind.signed, IntKind.bits]
/-- int(uint(x) % m) -/
theorem cut (x : Int) (m : Int) (hm : 0 < m) (hb : m ≤ 1000000000000000) : wrap64 (Int.tmod (IntKind.u64.wrap x) m) = IntKind.u64.wrap x % m ∧ 0 ≤ IntKind.u64.wrap x % m ∧ IntKind.u64.wrap x % m < m := by
  have h := u64_range x
  have h0 := Int.emod_nonneg (IntKind.u64.wrap x) (show m ≠ 0 by omega)
  have h1 := Int.emod_lt_of_pos (IntKind.u64.wrap x) hm
  rw [Int.tmod_eq_emod_of_nonneg h.1, w64 (by omega) (by omega)]
  exact ⟨rfl, h0, h1⟩
theorem floor_of {a b : Int} (hb : 0 < b) : (Int.tmod a b < 0 → Int.tdiv a b = a / b + 1) ∧ (¬ Int.tmod a b < 0 → Int.tdiv a b = a / b) := by
  have e := Int.mul_tdiv_add_tmod a b
  have h1 := Int.tmod_lt_of_pos a hb
  have h2 : -b < Int.tmod a b := by
    rcases Int.le_total 0 a with hn | hn
    · have := Int.tmod_nonneg b hn; omega
    · have := Int.tmod_lt_of_pos (-a) hb
      rw [Int.neg_tmod] at this
      omega
  constructor
  · intro h
    have : a / b = Int.tdiv a b - 1 := by
      rw [Int.ediv_eq_iff_of_pos hb]
      constructor
      · rw [Int.sub_mul, Int.mul_comm]; omega
      · rw [Int.sub_mul, Int.mul_comm]; omega
    omega
  · intro h
    have : a / b = Int.tdiv a b := by
      rw [Int.ediv_eq_iff_of_pos hb]
      constructor
      · rw [Int.mul_comm]; omega
      · rw [Int.mul_comm]; omega
    omega
theorem ediv_in {a b M : Int} (hb : 0 < b) (h0 : -M ≤ a) (h1 : a ≤ M) : -M ≤ a / b ∧ a / b ≤ M := by
  have hM : 0 ≤ M := by omega
  constructor
  · rw [Int.le_ediv_iff_mul_le hb]
    have : M * 1 ≤ M * b := Int.mul_le_mul_of_nonneg_left hb hM
    rw [Int.neg_mul]; omega
  · have h := Int.ediv_le_ediv hb h1
    have := Int.ediv_le_self b hM
    omega
theorem tdiv_in {a b M : Int} (hb : 0 < b) (h0 : -M ≤ a) (h1 : a ≤ M) (hM : M ≤ 4611686018427387904) : -9223372036854775807 ≤ Int.tdiv a b ∧ Int.tdiv a b ≤ 9223372036854775806 := by
  obtain ⟨h2, h3⟩ := floor_of (a := a) hb
  obtain ⟨h4, h5⟩ := ediv_in hb h0 h1
  by_cases h : Int.tmod a b < 0
  · rw [h2 h]; omega
  · rw [h3 h]; omega
theorem mx_eq (a b : Int) : mx a b = max a b := by unfold mx; omega
theorem mn_eq (a b : Int) : mn a b = min a b := by unfold mn; omega
theorem dec_of {p : Prop} [Decidable p] {q : Prop} [Decidable q] (h : p ↔ q) : decide p = decide q := by simp [h]
theorem tmod_zero_iff {a b : Int} : Int.tmod a b = 0 ↔ a % b = 0 := by
  rw [← Int.dvd_iff_tmod_eq_zero, ← Int.dvd_iff_emod_eq_zero]
theorem some_dec {p : Prop} [Decidable p] {b : Bool} (h : b = true ↔ p) : some b = some (decide p) := by
  cases b
  · rw [decide_eq_false (fun hp => by cases h.2 hp)]
  · rw [decide_eq_true (h.1 rfl)]
theorem dec_true {p q : Prop} [Decidable q] (h : q ↔ p) : decide q = true ↔ p := by simp [h]
theorem not_false {p : Prop} (h : ¬ p) : false = true ↔ p := by simp [h]
end Go.Proofs.YtagadehcbpoihaaDoorN
