/- ExpandTells, the plain law: what is told of a text is the document's. -/
import Derived.Test.YtpflnhbhgcediaaDoorQTex3
import Derived.Test.YtpflnhbhgcediaaDoorEvl
namespace Go.Proofs.YtpflnhbhgcediaaDoor.Tell4
open Go.RowKit Go.Proofs.YtpflnhbhgcediaaDoorW.PrintWords Go.Proofs.YtpflnhbhgcediaaDoorW.PrintLast Go.Proofs.YtpflnhbhgcediaaDoorW.PrintMore Go.Proofs.YtpflnhbhgcediaaDoorN Go.Proofs.YtpflnhbhgcediaaDoor.Evl Go.Proofs.YtpflnhbhgcediaaDoor.Str Go.Proofs.YtpflnhbhgcediaaDoor.Esc4 Go.Proofs.YtpflnhbhgcediaaDoor.Ask4 Go.Proofs.YtpflnhbhgcediaaDoor.Plain4 Go.Proofs.YtpflnhbhgcediaaDoor.Names4 Go.Proofs.YtpflnhbhgcediaaDoor.QTe
set_option linter.unusedVariables false
set_option linter.unusedSimpArgs false
/-! ### Protect -/
def dbl : List UInt8 → List UInt8
  | [] => []
  | c :: l => if c = 92 then 92 :: 92 :: dbl l else c :: dbl l
theorem dbl_rep : ∀ l : List UInt8, ReplOne.rep 92 [92, 92] l = dbl l
  | [] => rfl
  | c :: l => by
    rw [ReplOne.rep, dbl, dbl_rep l]
    by_cases h : c = 92
    · rw [if_pos h, if_pos (by rw [h]; rfl)]; rfl
    · rw [if_neg h, if_neg (by simpa using h)]; rfl
theorem dbl_app : ∀ (a b : List UInt8), dbl (a ++ b) = dbl a ++ dbl b
  | [], b => rfl
  | c :: a, b => by
    rw [List.cons_append, dbl, dbl, dbl_app a b]
    split <;> rfl
theorem dbl_len : ∀ l : List UInt8, (dbl l).length ≤ 2 * l.length
  | [] => Nat.le_refl _
  | c :: l => by
    have := dbl_len l
    rw [dbl]
    split <;> (simp only [List.length_cons]; omega)
def no10 (l : List UInt8) : Bool := l.all fun c => c != 10
theorem ix10 : ∀ l : List UInt8, decide (0 ≤ Lib.indexByte l 10) = !no10 l
  | [] => rfl
  | c :: l => by
    have ih := ix10 l
    have e0 : no10 (c :: l) = (c != 10 && no10 l) := by unfold no10; rw [List.all_cons]
    rw [e0, Lib.indexByte]
    by_cases h : c = 10
    · subst h; rfl
    · have h1 : (c == 10) = false := beq_eq_false_iff_ne.2 h
      have h2 : (c != 10) = true := bne_iff_ne.2 h
      rw [h2, Bool.true_and, ← ih]
      simp only [h1]
      split
      · rename_i h3
        simp_all
      · congr 1
        simp
        omega
def lineB (l : List UInt8) : Bool := no10 l && decide ((l.length : Int) ≤ 2000)
def protV (l : List UInt8) : ByteArray × Int := if lineB l = true then (if ((dbl l).length : Int) > 2000 then (⟨#[]⟩, 2) else (mkB (dbl l), 0)) else (⟨#[]⟩, 1)
theorem protect_f (l : List UInt8) (hl : l.length < 100000) : expand_Protect.f (mkB l) = some (protV l) := by
  show QBk.expand_Protect.f (mkB l) = _
  have h2 : QBk.strings_ReplaceAll.f (mkB l) (⟨#[92]⟩ : ByteArray) (⟨#[92, 92]⟩ : ByteArray) = some (mkB (dbl l)) := by
    unfold QBk.strings_ReplaceAll.f
    show (if (mkB l).size < 10000000 ∧ (2 : Nat) < 10000 ∧ ([92, 92] : List UInt8) ≠ [92] then some _ else none) = _
    rw [if_pos ⟨by rw [size_mkB]; omega, by decide, by decide⟩, data_mkB]
    show some (mkB (ReplOne.rep 92 [92, 92] l)) = _
    rw [dbl_rep]
  have h1 : QBk.expand_fits.f (mkB l) = some (lineB l) := by
    unfold QBk.expand_fits.f QBk.strings_Contains.f lineB
    rw [size_mkB]
    split
    · rename_i h
      show (some (decide (0 ≤ Lib.indexByte (mkB l).data.toList 10))).bind (fun t103 => some (!t103)) = _
      rw [data_mkB, ix10, decide_eq_true h, Bool.and_true]
      show some (!!no10 l) = _
      rw [Bool.not_not]
    · rename_i h
      rw [decide_eq_false h, Bool.and_false]
  unfold QBk.expand_Protect.f protV
  rw [h1, Option.bind_some]
  cases lineB l with
  | false => rfl
  | true =>
    rw [if_pos rfl, if_pos rfl, h2, Option.bind_some, size_mkB]
    split <;> rfl
theorem line_l (l : List UInt8) (hl : l.length < 100000) : ∀ (m i : Nat), i + m = l.length → Evl (fun k => frisketref04_IsLine.l0 k (mkB l) (i : Int)) (no10 (l.drop i) && decide ((l.length : Int) ≤ 2000))
  | 0, i, e => by
    refine Evl.succ ?_
    simp only [frisketref04_IsLine.l0, size_mkB]
    rw [List.drop_eq_nil_of_le (by omega)]
    exact Evl.neg (by omega) (Evl.some _)
  | m + 1, i, e => by
    have hi : i < l.length := by omega
    refine Evl.succ ?_
    simp only [frisketref04_IsLine.l0, size_mkB, bt_mkB l i hi]
    rw [List.drop_eq_getElem_cons hi, wn (by omega)]
    have hb : ((l[i].toNat : Int) = 10) ↔ l[i] = 10 := b_eq (n := 10) (by decide)
    have e0 : no10 (l[i] :: l.drop (i + 1)) = (l[i] != 10 && no10 (l.drop (i + 1))) := by unfold no10; rw [List.all_cons]
    rw [e0]
    refine Evl.pos (by omega) (Evl.pos (by omega) (Evl.ite (fun c => ?_) (fun c => ?_)))
    · rw [bne_eq_false_iff_eq.2 (hb.1 c), Bool.false_and, Bool.false_and]
      exact Evl.some _
    · rw [bne_iff_ne.2 (fun e => c (hb.2 e)), Bool.true_and]
      exact line_l l hl m (i + 1) (by omega)
theorem prot_l (l : List UInt8) (hl : l.length < 100000) : ∀ (m i : Nat), i + m = l.length → Evl (fun k => frisketref04_Protect.l0 k (mkB l) (mkB (dbl (l.take i))) (i : Int)) (if ((dbl l).length : Int) > 2000 then ((⟨#[]⟩ : ByteArray), (2 : Int)) else (mkB (dbl l), 0))
  | 0, i, e => by
    refine Evl.succ ?_
    simp only [frisketref04_Protect.l0, size_mkB]
    rw [List.take_of_length_le (by omega)]
    refine Evl.neg (by omega) ?_
    by_cases h : ((dbl l).length : Int) > 2000
    · refine Evl.pos h ?_
      rw [if_pos h]; exact Evl.some _
    · refine Evl.neg h ?_
      rw [if_neg h]; exact Evl.some _
  | m + 1, i, e => by
    have hi : i < l.length := by omega
    have ex : (mkB l).extract (i : Int).toNat ((i + 1 : Nat) : Int).toNat = mkB [l[i]] := by
      rw [Int.toNat_natCast, Int.toNat_natCast, extract_mkB, List.take_add_one, List.getElem?_eq_getElem hi]
      show mkB ((l.take i ++ [l[i]]).drop i) = _
      rw [show (l.take i ++ [l[i]]).drop i = [l[i]] by rw [List.drop_append_of_le_length (by rw [List.length_take]; omega), List.drop_eq_nil_of_le (by rw [List.length_take]; omega)]; rfl]
    have hd := dbl_len (l.take i)
    rw [List.length_take] at hd
    have hb : ((l[i].toNat : Int) = 92) ↔ l[i] = 92 := b_eq (n := 92) (by decide)
    have et : l.take (i + 1) = l.take i ++ [l[i]] := by rw [List.take_add_one, List.getElem?_eq_getElem hi]; rfl
    have ih := prot_l l hl m (i + 1) (by omega)
    refine Evl.succ ?_
    simp only [frisketref04_Protect.l0, size_mkB, bt_mkB l i hi]
    rw [wn (by omega), ex]
    simp only [append_mkB, size_mkB]
    refine Evl.pos (by omega) (Evl.pos (by omega) (Evl.pos (by omega) (Evl.pos (by omega) (Evl.pos (by simp only [List.length_cons, List.length_nil]; omega) (Evl.ite (fun c => ?_) (fun c => ?_))))))
    · refine Evl.pos (by simp only [List.length_append, List.length_cons, List.length_nil]; omega) ?_
      rw [et, dbl_app, show dbl [l[i]] = [l[i]] ++ [l[i]] by rw [dbl, if_pos (hb.1 c), hb.1 c]; rfl, ← List.append_assoc] at ih
      exact ih
    · rw [et, dbl_app, show dbl [l[i]] = [l[i]] by rw [dbl, if_neg (fun e => c (hb.2 e))]; rfl] at ih
      exact ih
theorem rprotect_ev (l : List UInt8) (hl : l.length < 100000) : Evl (fun k => frisketref04_Protect.f k (mkB l)) (protV l) := by
  have h1 := line_l l hl l.length 0 (by omega)
  have h2 := prot_l l hl l.length 0 (by omega)
  rw [List.drop_zero] at h1
  unfold frisketref04_Protect.f
  refine Evl.bind (f := fun k => frisketref04_IsLine.f k (mkB l)) h1 ?_
  show Evl (fun k => if lineB l = true then _ else _) _
  unfold protV
  by_cases h : lineB l = true
  · rw [if_pos h]; exact Evl.pos h h2
  · rw [if_neg h]; exact Evl.neg h (Evl.some _)
/-! ### Plain -/
theorem cut_head (q : List UInt8) : cutB 92 (92 :: q) = some ([], q) := by rw [cutB, if_pos rfl]
theorem cut_skip {c : UInt8} (h : c ≠ 92) (t : List UInt8) : (∃ p q, cutB 92 t = some (p, q) ∧ cutB 92 (c :: t) = some (c :: p, q)) ∨ (cutB 92 t = none ∧ cutB 92 (c :: t) = none) := by
  rw [cutB, if_neg h]
  cases ht : cutB 92 t with
  | none => exact Or.inr ⟨rfl, by simp⟩
  | some p => exact Or.inl ⟨p.1, p.2, rfl, by simp⟩
theorem wp_skip {k : Nat} {c : UInt8} (h : c ≠ 92) (t : List UInt8) : wp (k + 1) (c :: t) = wp (k + 1) t := by
  rcases cut_skip h t with ⟨p, q, h1, h2⟩ | ⟨h1, h2⟩
  · rw [wp_some h1, wp_some h2]
  · rw [wp_none h1, wp_none h2]
theorem nms_skip {k : Nat} {c : UInt8} (h : c ≠ 92) (t : List UInt8) : nms (k + 1) (c :: t) = nms (k + 1) t := by
  rcases cut_skip h t with ⟨p, q, h1, h2⟩ | ⟨h1, h2⟩
  · rw [nms, nms, h1, h2]
  · rw [nms_none h1, nms_none h2]
def pw (n : Nat) (l : List UInt8) : Bool := !(wp n l).1 && !(wp n l).2
theorem widR_pos (s : List UInt8) : decide ((widR (wid s)).2 > 0) = (wid s).isSome := by
  cases h : wid s with
  | none => rfl
  | some z => exact decide_eq_true (by have := wid_ok h; show (z.2 : Int) > 0; omega)
theorem at_f (s : List UInt8) (hs : s.length < 1000000000) : frisketref04_At.f (mkB s) = some (atV s) := by
  unfold frisketref04_At.f
  rw [size_mkB, if_pos hs, data_mkB]
theorem inN_iff (d : UInt8) : inN d = true ↔ d = 110 ∨ d = 42 ∨ d = 36 ∨ d = 119 := by
  unfold inN
  simp [or_assoc]
theorem plain_l (l : List UInt8) (hl : l.length < 100000) : ∀ (m i n : Nat), l.length ≤ i + m → i ≤ l.length → l.length < i + n → Evl (fun k => frisketref04_Plain.l0 k (mkB l) (i : Int)) (pw n (l.drop i)) := by
  intro m
  induction m with
  | zero =>
    intro i n h1 h2 h3
    rw [List.drop_eq_nil_of_le (by omega)]
    refine Evl.succ ?_
    simp only [frisketref04_Plain.l0, size_mkB]
    refine Evl.neg (by omega) ?_
    obtain ⟨k, rfl⟩ : ∃ k, n = k + 1 := ⟨n - 1, by omega⟩
    exact Evl.some _
  | succ m ih =>
    intro i n h1 h2 h3
    obtain ⟨k0, rfl⟩ : ∃ k, n = k + 1 := ⟨n - 1, by omega⟩
    by_cases hi : i < l.length
    · obtain ⟨c, t, hd⟩ : ∃ c t, l.drop i = c :: t := ⟨l[i], l.drop (i + 1), List.drop_eq_getElem_cons hi⟩
      have hc := drop_cons hd
      rw [hd]
      have hb : ((c.toNat : Int) = 92) ↔ c = 92 := b_eq (n := 92) (by decide)
      have hj : ∀ b, (b = true) → Evl (fun k => frisketref04_Plain.l0 k (mkB l) ((i + 1 : Nat) : Int)) (pw (k0 + 1) (c :: t)) → Evl (fun k => frisketref04_Plain.j1 k (mkB l) (i : Int) b) (pw (k0 + 1) (c :: t)) := by
        intro b hb h
        refine Evl.succ ?_
        simp only [frisketref04_Plain.j1]
        rw [wn (by omega)]
        exact Evl.pos hb h
      refine Evl.succ ?_
      simp only [frisketref04_Plain.l0, size_mkB, bt_drop hd]
      rw [wn (by omega)]
      refine Evl.pos (by omega) (Evl.pos (by omega) (Evl.ite (fun e => ?_) (fun e => ?_)))
      · obtain rfl := hb.1 e
        match t, hd, hc with
        | [], hd, hc =>
          have hlen := drop_len hd (by omega)
          simp only [List.length_cons, List.length_nil] at hlen
          refine hj _ (beq_iff_eq.2 (by omega)) ?_
          have := ih (i + 1) (k0 + 1) (by omega) (by omega) (by omega)
          rw [hc.2.1] at this
          exact this
        | d :: u, hd, hc =>
          have hlen := drop_len hd (by omega)
          simp only [List.length_cons] at hlen
          have hd2 := hc.2.1
          have hc2 := drop_cons hd2
          have hW := widthat_ev (92 :: d :: u) (by simp only [List.length_cons]; omega)
          have hA := at_f (92 :: d :: u) (by simp only [List.length_cons]; omega)
          have hS := (atV_says (92 :: d :: u)).1
          have hb34 : ((d.toNat : Int) = 34) ↔ d = 34 := b_eq (n := 34) (by decide)
          have c110 : ((d.toNat : Int) = 110) ↔ d = 110 := b_eq (n := 110) (by decide)
          have c42 : ((d.toNat : Int) = 42) ↔ d = 42 := b_eq (n := 42) (by decide)
          have c36 : ((d.toNat : Int) = 36) ↔ d = 36 := b_eq (n := 36) (by decide)
          have c119 : ((d.toNat : Int) = 119) ↔ d = 119 := b_eq (n := 119) (by decide)
          have ip := inN_iff d
          have hp : pw (k0 + 1) (92 :: d :: u) = if ((esc (92 :: d :: u)).isSome || (wid (92 :: d :: u)).isSome) = true then false else if d = 34 then false else if inN d = true then pw k0 (d :: u) else pw k0 u := by
            unfold pw
            rw [wp_some (cut_head (d :: u)), wpTail]
            split
            · rfl
            · split
              · rfl
              · split <;> rfl
          rw [hp]
          have hj2 : ∀ b, (b = true) → Evl (fun k => frisketref04_Plain.j2 k (mkB l) (i : Int) b) false := by
            intro b hb
            refine Evl.succ ?_
            simp only [frisketref04_Plain.j2]
            exact Evl.pos hb (Evl.some _)
          refine Evl.succ ?_
          simp only [frisketref04_Plain.j1, size_mkB, Int.toNat_natCast]
          have hrest := rest_drop hd
          rw [size_mkB] at hrest
          rw [wn (by omega), hrest]
          refine Evl.neg (by simp; omega) (Evl.pos (by omega) (Evl.pos (by omega) (Evl.bind (f := fun k => frisketref04_WidthAt.f k (mkB (92 :: d :: u))) hW ?_)))
          rw [hA]
          refine Evl.bind (Evl.some _) (Evl.pos (by omega) (Evl.pos (by omega) ?_))
          rw [bt_drop hd2]
          refine Evl.ite (fun e34 => ?_) (fun e34 => Evl.ite (fun ea => ?_) (fun ea => ?_))
          · rw [if_pos (hb34.1 e34)]
            rw [ite_self]
            exact hj2 _ rfl
          · rw [hS] at ea
            rw [ea, Bool.true_or, if_pos rfl]
            exact hj2 _ rfl
          · rw [hS] at ea
            have ea2 : (esc (92 :: d :: u)).isSome = false := Bool.eq_false_iff.2 ea
            rw [widR_pos, ea2, Bool.false_or, if_neg (show ¬ d = 34 from fun e => e34 (hb34.2 e))]
            cases hw : (wid (92 :: d :: u)).isSome with
            | true => rw [if_pos rfl]; exact hj2 _ rfl
            | false =>
              rw [if_neg (by decide)]
              refine Evl.succ ?_
              simp only [frisketref04_Plain.j2, size_mkB]
              rw [wn (by omega), bt_drop hd2, show wrap64 (((i + 1 : Nat) : Int) + 1) = ((i + 2 : Nat) : Int) by rw [wn (by omega)]]
              refine Evl.neg (by decide) (Evl.pos (by omega) (Evl.pos (by omega) ?_))
              have i1 := ih (i + 1) k0 (by omega) (by omega) (by omega)
              have i2 := ih (i + 2) k0 (by omega) (by omega) (by omega)
              rw [hd2] at i1
              rw [hc2.2.1] at i2
              by_cases hin : inN d = true
              · rw [if_pos hin]
                rcases ip.1 hin with h | h | h | h
                · exact Evl.pos (c110.2 h) i1
                · exact Evl.neg (fun e => absurd (c110.1 e) (by rw [h]; decide)) (Evl.pos (c42.2 h) i1)
                · exact Evl.neg (fun e => absurd (c110.1 e) (by rw [h]; decide)) (Evl.neg (fun e => absurd (c42.1 e) (by rw [h]; decide)) (Evl.pos (c36.2 h) i1))
                · exact Evl.neg (fun e => absurd (c110.1 e) (by rw [h]; decide)) (Evl.neg (fun e => absurd (c42.1 e) (by rw [h]; decide)) (Evl.neg (fun e => absurd (c36.1 e) (by rw [h]; decide)) (Evl.pos (c119.2 h) i1)))
              · rw [if_neg hin]
                exact Evl.neg (fun e => hin (ip.2 (.inl (c110.1 e)))) (Evl.neg (fun e => hin (ip.2 (.inr (.inl (c42.1 e))))) (Evl.neg (fun e => hin (ip.2 (.inr (.inr (.inl (c36.1 e)))))) (Evl.neg (fun e => hin (ip.2 (.inr (.inr (.inr (c119.1 e)))))) i2)))
      · refine hj _ rfl ?_
        have := ih (i + 1) (k0 + 1) (by omega) (by omega) (by omega)
        rw [hc.2.1] at this
        unfold pw at this ⊢
        rw [wp_skip (fun e2 => e (hb.2 e2))]
        exact this
    · rw [List.drop_eq_nil_of_le (by omega)]
      refine Evl.succ ?_
      simp only [frisketref04_Plain.l0, size_mkB]
      exact Evl.neg (by omega) (Evl.some _)
theorem rplain_ev (l : List UInt8) (hl : l.length < 100000) : Evl (fun k => frisketref04_Plain.f k (mkB l)) (plainB l) := by
  have h := plain_l l hl l.length 0 (l.length + 1) (by omega) (by omega) (by omega)
  rw [List.drop_zero] at h
  exact h
theorem plain_f (l : List UInt8) (hl : l.length < 100000) : expand_Plain.f (mkB l) = some (plainB l) := by
  unfold expand_Plain.f
  rw [size_mkB, if_pos (by omega), data_mkB]
end Go.Proofs.YtpflnhbhgcediaaDoor.Tell4
