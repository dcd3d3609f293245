/- strings.ContainsFunc of the bytes that stand in no name; strings.Contains, strings.IndexByte. -/
import Derived.Test.YtpflnhbhgcediaaQEax0
import Derived.Test.YtpflnhbhgcediaaLay
import Derived.Test.YtpflnhbhgcediaaLay3
import Derived.Test.YtpflnhbhgcediaaFExEx
import Derived.Test.YtpflnhbhgcediaaStr
namespace Go.Proofs.Ytpflnhbhgcediaa.QEa
open Go.RowKit Go.Lib Go.Proofs.YtpflnhbhgcediaaW.PrintWords Go.Proofs.YtpflnhbhgcediaaW.PrintLast Go.Proofs.YtpflnhbhgcediaaW.PrintMore Go.Proofs.Ytpflnhbhgcediaa.Str
set_option linter.unusedVariables false
/-- No byte of a name. -/
def badR (r : Nat) : Bool := decide ((r : Int) < 33) || decide ((r : Int) > 126)
set_option maxRecDepth 100000 in
theorem n1_gives (x : Nat) (W : World) : FnGives Try.prog 46 #[] #[.int .i32 (x : Int)] (.bool (badR x)) W := by
  show Calls Try.prog 46 #[.int .i32 (x : Int)] W _
  by_cases c : (x : Int) < 33
  · have c1 : decide ((x : Int) < 33) = true := decide_eq_true c
    have c2 : ((x : Int) < 33) = True := eq_true c
    have e : badR x = true := by unfold badR; rw [c1]; rfl
    rw [e]
    clear c e
    go_enter Try.func46, Try.ntmps46
    go_wp2
    go_ret
    exact ⟨rfl, 0, rfl⟩
  · have c1 : decide ((x : Int) < 33) = false := decide_eq_false c
    have c2 : ((x : Int) < 33) = False := eq_false c
    have e : badR x = decide ((x : Int) > 126) := by unfold badR; rw [c1]; rfl
    rw [e]
    clear c e
    go_enter Try.func46, Try.ntmps46
    go_wp2
    go_ret
    exact ⟨rfl, 0, rfl⟩
/-- May all bytes stand in a name? -/
def okN (l : List UInt8) : Bool := l.all fun c => decide (33 ≤ c.toNat ∧ c.toNat ≤ 126)
theorem idx_ok (s : ByteArray) : ∀ (f pos : Nat), s.size - pos ≤ f → decide (0 ≤ idxFuncFrom badR true s f pos) = !okN (s.data.toList.drop pos)
  | 0, pos, h => by
    rw [idxFuncFrom, List.drop_eq_nil_of_le (by rw [Array.length_toList]; show s.size ≤ _; omega)]
    rfl
  | f + 1, pos, h => by
    rw [idxFuncFrom]
    by_cases c : pos < s.size
    · rw [if_pos c]
      have hl : pos < s.data.toList.length := by rw [Array.length_toList]; exact c
      have hx : s.data.toList[pos] = s[pos]'c := by rw [Array.getElem_toList]; rfl
      rw [List.drop_eq_getElem_cons hl]
      have e0 : okN (s.data.toList[pos] :: s.data.toList.drop (pos + 1)) = (decide (33 ≤ (s[pos]'c).toNat ∧ (s[pos]'c).toNat ≤ 126) && okN (s.data.toList.drop (pos + 1))) := by
        unfold okN
        rw [List.all_cons, hx]
      rw [e0]
      by_cases ha : (s[pos]'c).toNat < 128
      · rw [decode_ascii s pos c ha]
        by_cases hb : badR (s[pos]'c).toNat = true
        · rw [if_pos hb, decide_eq_true (by omega)]
          have : ¬ (33 ≤ (s[pos]'c).toNat ∧ (s[pos]'c).toNat ≤ 126) := by
            unfold badR at hb
            rw [Bool.or_eq_true, decide_eq_true_eq, decide_eq_true_eq] at hb
            omega
          rw [decide_eq_false this]
          rfl
        · rw [if_neg hb, idx_ok s f (pos + 1) (by omega)]
          have : 33 ≤ (s[pos]'c).toNat ∧ (s[pos]'c).toNat ≤ 126 := by
            unfold badR at hb
            rw [Bool.or_eq_true, decide_eq_true_eq, decide_eq_true_eq] at hb
            omega
          rw [decide_eq_true this]
          rfl
      · obtain ⟨h1, h2⟩ := decode_high s pos c (by omega)
        have hb : badR (Utf8.decode s pos).1 = true := by
          unfold badR
          rw [Bool.or_eq_true, decide_eq_true_eq, decide_eq_true_eq]
          omega
        rw [if_pos hb, decide_eq_true (by omega), decide_eq_false (by omega : ¬ (33 ≤ (s[pos]'c).toNat ∧ (s[pos]'c).toNat ≤ 126))]
        rfl
    · rw [if_neg c, List.drop_eq_nil_of_le (by rw [Array.length_toList]; show s.size ≤ _; omega)]
      rfl
def strings_ContainsFunc.f (a0 : ByteArray) (a1 : Unit) : Option Bool := some (!okN a0.data.toList)
theorem strings_ContainsFunc.calls (a0 : ByteArray) (a1 : Unit) (r : Bool) (w : World) (h : strings_ContainsFunc.f a0 a1 = some r) :
    Calls Try.prog 45 #[.string a0, .func (.func 46) #[] #[]] w fun e w' => e = .returned (.bool r) ∧ Below w.heap.size w w' := by
  obtain rfl := Option.some.inj h
  refine (Any.strings_ContainsFunc Lay3.l17Ggw 46 #[] (enters_of Try.func46 (by kernel_rfl) rfl) badR a0 w (fun W x _ => n1_gives x W)).mono ?_
  rintro e w' ⟨rfl, hb⟩
  refine ⟨?_, hb⟩
  have := idx_ok a0 a0.size 0 (by omega)
  rw [List.drop_zero] at this
  unfold idxFunc
  rw [this]
def strings_IndexByte.f (a0 : ByteArray) (a1 : Int) : Option Int := QEx.strings_IndexByte.f a0 a1
theorem strings_IndexByte.calls (a0 : ByteArray) (a1 : Int) (r : Int) (w : World) (h : strings_IndexByte.f a0 a1 = some r) :
    Calls Try.prog 26 #[.string a0, .int .u8 a1] w fun e w' => e = .returned (.int .i64 r) ∧ Drawn0 w w' := QEx.strings_IndexByte.calls a0 a1 r w h
end Go.Proofs.Ytpflnhbhgcediaa.QEa
