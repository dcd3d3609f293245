/- Expand and the document's, in all cases: what comes out, what is asked. -/
import Derived.Test.YtpflnhbhgcediaaFXpdEa
import Derived.Test.YtpflnhbhgcediaaFRefEa
import Derived.Test.YtpflnhbhgcediaaQSax2
namespace Go.Proofs.Ytpflnhbhgcediaa.Ex4
open Go.RowKit Go.Proofs.YtpflnhbhgcediaaW.PrintWords Go.Proofs.YtpflnhbhgcediaaW.PrintLast Go.Proofs.YtpflnhbhgcediaaW.PrintMore Go.Proofs.YtpflnhbhgcediaaN Go.Proofs.Ytpflnhbhgcediaa.FnVal Go.Proofs.Ytpflnhbhgcediaa.Evl Go.Proofs.Ytpflnhbhgcediaa.Str Go.Proofs.Ytpflnhbhgcediaa.Esc4 Go.Proofs.Ytpflnhbhgcediaa.Ask4 Go.Proofs.Ytpflnhbhgcediaa.Plain4 Go.Proofs.Ytpflnhbhgcediaa.Sane4 Go.Proofs.Ytpflnhbhgcediaa.QSa
set_option linter.unusedVariables false
set_option linter.unusedSimpArgs false
/-! ### the same questions -/
def toS (a : As) : S55 := ⟨(a.kind.toNat : Int), mkB a.name, a.step⟩
theorem ask_c {w : World} {A : Option Addr} {n : Nat} {l : List As} (h : askK.C w A n l) : Kd.C k55 w A n (l.map toS) := by
  obtain ⟨h1, h2, h3⟩ := h
  refine ⟨by rw [List.length_map]; exact h1, h2, fun hn => ?_⟩
  obtain ⟨ad, ha, hc⟩ := h3 hn
  refine ⟨ad, ha, fun j p hj => ?_⟩
  rw [List.getElem?_map] at hj
  cases hl : l[j]? with
  | none => rw [hl] at hj; cases hj
  | some a =>
    rw [hl] at hj
    obtain rfl := Option.some.inj hj
    exact hc j a hl
theorem same_l (l : List S55) (hl : l.length ≤ 1000) : ∀ (m i : Nat), i + m = l.length → Evl (fun k => frisketref04_SameAsks.l0 k l l (i : Int)) true
  | 0, i, e => by
    refine Evl.succ ?_
    simp only [frisketref04_SameAsks.l0]
    exact Evl.neg (by omega) (Evl.some _)
  | m + 1, i, e => by
    have ih := same_l l hl m (i + 1) (by omega)
    refine Evl.succ ?_
    simp only [frisketref04_SameAsks.l0]
    rw [wn (by omega)]
    exact Evl.pos (by omega) (Evl.pos (by omega) (Evl.pos (by omega) (Evl.neg (by simp) ih)))
theorem same_calls (l : List As) (hl : l.length ≤ 1000) {A0 A1 : Option Addr} {c0 c1 : Nat} (w : World) (h0 : askK.C w A0 l.length l) (h1 : askK.C w A1 l.length l) (hc0 : l.length ≤ c0) (hc1 : l.length ≤ c1) :
    Calls Try.prog 17 #[.slice A0 l.length c0, .slice A1 l.length c1] w fun e w' => e = .returned (.bool true) ∧ Below w.heap.size w w' := by
  obtain ⟨k, hk⟩ := (show Evl (fun k => frisketref04_SameAsks.f k (l.map toS) (l.map toS)) true by
    unfold frisketref04_SameAsks.f
    exact Evl.pos rfl (same_l (l.map toS) (by rw [List.length_map]; exact hl) (l.map toS).length 0 (Nat.zero_add _))).out
  have e : l.length = (l.map toS).length := by rw [List.length_map]
  have h0 := ask_c h0
  have h1 := ask_c h1
  rw [e] at h0 h1 hc0 hc1 ⊢
  refine (frisketref04_SameAsks.calls k A0 c0 _ A1 c1 _ true w h0 hc0 h1 hc1 hk).mono ?_
  rintro e w' ⟨rfl, hd⟩
  exact ⟨rfl, hd.below⟩
/-! ### which texts are refused -/
def no10 (l : List UInt8) : Bool := l.all fun c => c != 10
theorem ix10 : ∀ l : List UInt8, decide (0 ≤ Lib.indexByte l 10) = !no10 l
  | [] => rfl
  | c :: l => by
    have ih := ix10 l
    have e0 : no10 (c :: l) = (c != 10 && no10 l) := by unfold no10; rw [List.all_cons]
    rw [e0, Lib.indexByte]
    by_cases h : c = 10
    · subst h; rfl
    · have h1 : (c == 10) = false := beq_eq_false_iff_ne.2 h
      have h2 : (c != 10) = true := bne_iff_ne.2 h
      rw [h2, Bool.true_and, ← ih]
      simp only [h1]
      split
      · rename_i h3
        simp_all
      · congr 1
        simp
        omega
theorem fits_eq (l : List UInt8) : fitsB (mkB l) = (no10 l && decide ((l.length : Int) ≤ 2000)) := by
  unfold fitsB
  rw [size_mkB, data_mkB, ix10, Bool.not_not, Bool.and_comm]
theorem line_l (l : List UInt8) (hl : l.length < 1000000000000) : ∀ (m i : Nat), i + m = l.length → Evl (fun k => frisketref04_IsLine.l0 k (mkB l) (i : Int)) (no10 (l.drop i) && decide ((l.length : Int) ≤ 2000))
  | 0, i, e => by
    refine Evl.succ ?_
    simp only [frisketref04_IsLine.l0, size_mkB]
    rw [List.drop_eq_nil_of_le (by omega)]
    exact Evl.neg (by omega) (Evl.some _)
  | m + 1, i, e => by
    have hi : i < l.length := by omega
    refine Evl.succ ?_
    simp only [frisketref04_IsLine.l0, size_mkB, bt_mkB l i hi]
    rw [List.drop_eq_getElem_cons hi, wn (by omega)]
    have hb : ((l[i].toNat : Int) = 10) ↔ l[i] = 10 := b_eq (n := 10) (by decide)
    have e0 : no10 (l[i] :: l.drop (i + 1)) = (l[i] != 10 && no10 (l.drop (i + 1))) := by unfold no10; rw [List.all_cons]
    rw [e0]
    refine Evl.pos (by omega) (Evl.pos (by omega) (Evl.ite (fun c => ?_) (fun c => ?_)))
    · rw [bne_eq_false_iff_eq.2 (hb.1 c), Bool.false_and, Bool.false_and]
      exact Evl.some _
    · rw [bne_iff_ne.2 (fun e => c (hb.2 e)), Bool.true_and]
      exact line_l l hl m (i + 1) (by omega)
theorem line_calls (l : List UInt8) (hl : l.length < 1000000000000) (w : World) : Calls Try.prog 12 #[.string (mkB l)] w fun e w' => e = .returned (.bool (fitsB (mkB l))) ∧ Below w.heap.size w w' := by
  have h := line_l l hl l.length 0 (by omega)
  rw [List.drop_zero, ← fits_eq] at h
  obtain ⟨k, hk⟩ := Evl.out (f := fun k => frisketref04_IsLine.f k (mkB l)) h
  refine (frisketref04_IsLine.calls k (mkB l) _ w hk).mono ?_
  rintro e w' ⟨rfl, hd⟩
  exact ⟨rfl, hd.below⟩
/-- What comes out: the text, the error, the questions. -/
def out3 (b : Bool) (r : Res) : ByteArray × Int × List As :=
  if b = true then (match r with | .ok o A => (mkB o, 0, A) | .lim A => (⟨#[]⟩, 2, A)) else (⟨#[]⟩, 1, [])
def resOf (cp : Bool) (L : List ByteArray) (s : List UInt8) : ByteArray × Int × List As := out3 (fitsB (mkB s)) (ex cp (anL L) (need [] s + 1) [] s [])
def Ends (T : TypeId) (w0 w : World) (B tb : Nat) (L : List ByteArray) (Aa : Option Addr) (ca : Nat) (r : ByteArray × Int × List As) (e : Ending) (w' : World) : Prop :=
  e = .returned (.tuple #[.string r.1, .int .i64 r.2.1]) ∧ Tl T w0 B tb L Aa ca r.2.2 w' ∧ Fr B (fun k => k = tb) w w'
set_option maxHeartbeats 4000000 in
set_option maxRecDepth 100000 in
theorem Expand_no (w0 : World) (B tb : Nat) (cp : Bool) (L : List ByteArray) (Aa : Option Addr) (ca : Nat) (S : ByteArray) (hf : fitsB S = false) (w : World) (h : Tl 40 w0 B tb L Aa ca [] w) :
    Calls Try.prog 11 #[.string S, .bool cp, .func (.func 13) #[.pointer (some ⟨tb, 0, none⟩)] #[]] w fun e w' => e = .returned (.tuple #[.string ⟨#[]⟩, .int .i64 1]) ∧ Below w.heap.size w w' := by
  have hfn := fn_anyX (.func 13) #[.pointer (some ⟨tb, 0, none⟩)] #[]
  have hmf : ∀ (fn : Fn) (first cap : Array Value) (w : World), (Instr.makeFunc fn first cap).run Try.prog w = .ok (.func fn first cap) w := fun _ _ _ _ => rfl
  have HR := Aside0.mk hf
  clear hf
  go_enter_defers Try.func11, Try.ntmps11
  go_wp2_with (first | (go_at_call 18; refine (fits_calls _ _).mono ?_; rw [HR.out]; rintro e w2 ⟨rfl, rfl⟩))
  simp [bodyPostD, Leaves, settle, results, Try.results11, go_sem]
  exact below_alloc (below_alloc (Below.refl _ _) _) _
theorem Expand_all (w0 : World) (B tb : Nat) (cp : Bool) (L : List ByteArray) (hL : L.length ≤ 1000) (hLs : ∀ a, (anL L a).length ≤ 100000) (Aa : Option Addr) (ca : Nat) (s : List UInt8) (w : World) (h : Tl 40 w0 B tb L Aa ca [] w) :
    Calls Try.prog 11 #[.string (mkB s), .bool cp, .func (.func 13) #[.pointer (some ⟨tb, 0, none⟩)] #[]] w (Ends 40 w0 w B tb L Aa ca (resOf cp L s)) := by
  unfold resOf out3
  cases hf : fitsB (mkB s) with
  | false =>
    refine (Expand_no w0 B tb cp L Aa ca (mkB s) hf w h).mono ?_
    rintro e w' ⟨rfl, hb⟩
    exact ⟨rfl, h.below hb, Fr.below hb⟩
  | true =>
    refine (Expand_ex w0 B tb cp L hL hLs Aa ca s hf w h).mono ?_
    intro e w' hx
    rw [if_pos rfl]
    cases hr : ex cp (anL L) (need [] s + 1) [] s [] with
    | ok o A => rw [hr] at hx; exact hx
    | lim A => rw [hr] at hx; exact hx
end Go.Proofs.Ytpflnhbhgcediaa.Ex4
