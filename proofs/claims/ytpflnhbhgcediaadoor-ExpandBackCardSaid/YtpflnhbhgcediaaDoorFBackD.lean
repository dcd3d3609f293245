/- The law: Expand in copy mode of Protect is the text, as often as it is protected. -/
import Derived.Test.YtpflnhbhgcediaaDoorFBackC
import Derived.Test.YtpflnhbhgcediaaDoorEvl
namespace Go.Proofs.YtpflnhbhgcediaaDoor.Back4
open Go.RowKit Go.Proofs.YtpflnhbhgcediaaDoorW.PrintWords Go.Proofs.YtpflnhbhgcediaaDoorW.PrintLast Go.Proofs.YtpflnhbhgcediaaDoorW.PrintMore Go.Proofs.YtpflnhbhgcediaaDoorN Go.Proofs.YtpflnhbhgcediaaDoor.FnVal Go.Proofs.YtpflnhbhgcediaaDoor.Str Go.Proofs.YtpflnhbhgcediaaDoor.Sane4 Go.Proofs.YtpflnhbhgcediaaDoor.QBk Go.Proofs.YtpflnhbhgcediaaDoor.Evl
set_option linter.unusedVariables false
set_option linter.unusedSimpArgs false
/-! ### the plain law -/
def prN : Nat → List UInt8 → List UInt8
  | 0, l => l
  | n + 1, l => pr (prN n l)
theorem pr_rep : ∀ l : List UInt8, ReplOne.rep 92 [92, 92] l = pr l
  | [] => rfl
  | c :: l => by
    rw [ReplOne.rep, pr, pr_rep l]
    by_cases h : c = 92
    · rw [if_pos h, if_pos (by rw [h]; rfl)]; rfl
    · rw [if_neg h, if_neg (by simpa using h)]; rfl
theorem pr_len : ∀ l : List UInt8, (pr l).length ≤ 2 * l.length
  | [] => Nat.le_refl _
  | c :: l => by
    have := pr_len l
    rw [pr]
    split
    · simp only [List.length_cons]; omega
    · simp only [List.length_cons]; omega
theorem pr_no : ∀ l : List UInt8, (∀ c ∈ l, c ≠ 10) → ∀ c ∈ pr l, c ≠ 10
  | [], _, c, hc => by cases hc
  | d :: l, h, c, hc => by
    have ih := pr_no l (fun e he => h e (List.mem_cons_of_mem _ he))
    rw [pr] at hc
    split at hc
    · rcases List.mem_cons.1 hc with rfl | hc
      · decide
      · rcases List.mem_cons.1 hc with rfl | hc
        · decide
        · exact ih c hc
    · rcases List.mem_cons.1 hc with rfl | hc
      · exact h _ (List.mem_cons_self ..)
      · exact ih c hc
/-- A text that can be protected and read. -/
def Fine (m : Nat) (l : List UInt8) : Prop := l.length ≤ m ∧ ∀ c ∈ l, c ≠ 10
theorem Fine.pr {m : Nat} {l : List UInt8} (h : Fine m l) : Fine (2 * m) (pr l) := ⟨by have := pr_len l; have := h.1; omega, pr_no l h.2⟩
theorem fine_N (l : List UInt8) (h : Fine 120 l) : ∀ n, n ≤ 3 → Fine 960 (prN n l) := by
  have h1 := h.pr
  have h2 := h1.pr
  have h3 := h2.pr
  intro n hn
  match n, hn with
  | 0, _ => exact ⟨Nat.le_trans h.1 (by decide), h.2⟩
  | 1, _ => exact ⟨Nat.le_trans h1.1 (by decide), h1.2⟩
  | 2, _ => exact ⟨Nat.le_trans h2.1 (by decide), h2.2⟩
  | 3, _ => exact ⟨Nat.le_trans h3.1 (by decide), h3.2⟩
theorem ix10 : ∀ l : List UInt8, (∀ c ∈ l, c ≠ 10) → Lib.indexByte l 10 = -1
  | [], _ => rfl
  | c :: l, h => by
    have ih := ix10 l (fun d hd => h d (List.mem_cons_of_mem _ hd))
    rw [Lib.indexByte, ih]
    simp [h c (List.mem_cons_self ..)]
theorem fits_fine {l : List UInt8} (h : Fine 2000 l) : fitsB (mkB l) = true := by
  unfold fitsB
  rw [data_mkB, ix10 l h.2, size_mkB, decide_eq_true (by have := h.1; omega : (l.length : Int) ≤ 2000)]
  rfl
theorem protect_f {l : List UInt8} (h : Fine 960 l) : expand_Protect.f (mkB l) = some (mkB (pr l), 0) := by
  have hp := pr_len l
  have hl := h.1
  have h1 : expand_fits.f (mkB l) = some true := by
    unfold expand_fits.f strings_Contains.f
    rw [size_mkB, if_pos (by omega)]
    show (some (decide (0 ≤ Lib.indexByte (mkB l).data.toList 10))).bind (fun t103 => some (!t103)) = _
    rw [data_mkB, ix10 l h.2]
    rfl
  have h2 : strings_ReplaceAll.f (mkB l) (⟨#[92]⟩ : ByteArray) (⟨#[92, 92]⟩ : ByteArray) = some (mkB (pr l)) := by
    unfold strings_ReplaceAll.f
    show (if (mkB l).size < 10000000 ∧ (2 : Nat) < 10000 ∧ ([92, 92] : List UInt8) ≠ [92] then some _ else none) = _
    rw [if_pos ⟨by rw [size_mkB]; omega, by decide, by decide⟩, data_mkB]
    show some (mkB (ReplOne.rep 92 [92, 92] l)) = _
    rw [pr_rep]
  unfold expand_Protect.f
  rw [h1]
  simp only [Option.bind_some, if_true, h2, size_mkB]
  rw [if_neg (by omega)]
def no10 (l : List UInt8) : Bool := l.all fun c => c != 10
theorem no10_iff {l : List UInt8} (h : no10 l = true) : ∀ c ∈ l, c ≠ 10 := fun c hc => by
  have := List.all_eq_true.1 h c hc
  simpa using this
theorem line_l (l : List UInt8) (hl : l.length ≤ 120) : ∀ (m i : Nat), i + m = l.length → Evl (fun k => frisketref04_IsLine.l0 k (mkB l) (i : Int)) (no10 (l.drop i))
  | 0, i, e => by
    refine Evl.succ ?_
    simp only [frisketref04_IsLine.l0, size_mkB]
    rw [List.drop_eq_nil_of_le (by omega)]
    refine Evl.neg (by omega) ?_
    rw [decide_eq_true (by omega : (l.length : Int) ≤ 2000)]
    exact Evl.some _
  | m + 1, i, e => by
    have hi : i < l.length := by omega
    refine Evl.succ ?_
    simp only [frisketref04_IsLine.l0, size_mkB, bt_mkB l i hi]
    rw [List.drop_eq_getElem_cons hi, wn (by omega)]
    have hb : ((l[i].toNat : Int) = 10) ↔ l[i] = 10 := b_eq (n := 10) (by decide)
    have e0 : no10 (l[i] :: l.drop (i + 1)) = (l[i] != 10 && no10 (l.drop (i + 1))) := by unfold no10; rw [List.all_cons]
    rw [e0]
    refine Evl.pos (by omega) (Evl.pos (by omega) (Evl.ite (fun c => ?_) (fun c => ?_)))
    · rw [bne_eq_false_iff_eq.2 (hb.1 c), Bool.false_and]
      exact Evl.some _
    · rw [bne_iff_ne.2 (fun e => c (hb.2 e)), Bool.true_and]
      exact line_l l hl m (i + 1) (by omega)
theorem line_ev (l : List UInt8) (hl : l.length ≤ 120) : ∃ k, frisketref04_IsLine.f k (mkB l) = some (no10 l) := by
  have h := line_l l hl l.length 0 (by omega)
  rw [List.drop_zero] at h
  refine Evl.out (f := fun k => frisketref04_IsLine.f k (mkB l)) ?_
  simp only [frisketref04_IsLine.f]
  exact h
end Go.Proofs.YtpflnhbhgcediaaDoor.Back4
