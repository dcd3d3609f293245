/- World.expand of any text: what stands while it is read. -/
import Derived.Test.YtpflnhbhgcediaaFExpEa
import Derived.Test.YtpflnhbhgcediaaFAtEa
import Derived.Test.YtpflnhbhgcediaaQEax3
namespace Go.Proofs.Ytpflnhbhgcediaa.Ex4
open Go.RowKit Go.Proofs.YtpflnhbhgcediaaW.PrintWords Go.Proofs.YtpflnhbhgcediaaW.PrintLast Go.Proofs.YtpflnhbhgcediaaW.PrintMore Go.Proofs.YtpflnhbhgcediaaN Go.Proofs.Ytpflnhbhgcediaa.FnVal Go.Proofs.Ytpflnhbhgcediaa.Str Go.Proofs.Ytpflnhbhgcediaa.Esc4 Go.Proofs.Ytpflnhbhgcediaa.Ask4 Go.Proofs.Ytpflnhbhgcediaa.Plain4 Go.Proofs.Ytpflnhbhgcediaa.QEa
set_option linter.unusedVariables false
set_option linter.unusedSimpArgs false
theorem cut_head (q : List UInt8) : cutB 92 (92 :: q) = some ([], q) := by rw [cutB, if_pos rfl]
theorem esc_at34 (u : List UInt8) : esc (92 :: 34 :: u) = none := by
  cases u with
  | nil => rfl
  | cons c r => rw [esc, if_pos rfl, esc3, if_neg (by decide), if_neg (by decide)]
theorem wid_at34 (u : List UInt8) : wid (92 :: 34 :: u) = none := by
  cases u with
  | nil => rfl
  | cons c r => rw [wid, if_neg (by simp)]
theorem at_no (s : List UInt8) (hs : s.length < 1000000000) (h : esc s = none) (w : World) : Calls Try.prog 35 #[.string (mkB s)] w fun e w' => ∃ (v0 : Int) (v1 : ByteArray) (v2 v3 : Int), e = .returned (.tuple #[.agg #[.int .u8 v0, .string v1, .int .i64 v2, .int .i64 v3], .bool false]) ∧ Below w.heap.size w w' := by
  refine (at_esc s hs w).mono ?_
  rintro e w' ⟨⟨v0, v1, v2, v3, v4⟩, hv, rfl, hb⟩
  have h4 : v4 = false := by
    have := hv.1
    rw [h] at this
    exact this
  subst h4
  exact ⟨v0, v1, v2, v3, rfl, hb⟩
theorem at_yes (s : List UInt8) (hs : s.length < 1000000000) (x : Es) (h : esc s = some x) (w : World) : Calls Try.prog 35 #[.string (mkB s)] w fun e w' => e = .returned (.tuple #[.agg #[.int .u8 (x.kind.toNat : Int), .string (mkB x.name), .int .i64 x.step, .int .i64 (x.size : Int)], .bool true]) ∧ Below w.heap.size w w' := by
  refine (at_esc s hs w).mono ?_
  rintro e w' ⟨v, hv, rfl, hb⟩
  obtain rfl := hv.2 x h
  exact ⟨rfl, hb⟩
/-- What stands: how many questions are left, who is asked. -/
structure Rs (w0 w : World) (B lb tb : Nat) (L : List ByteArray) (Aa : Option Addr) (ca : Nat) (lv : Int) (A : List As) (w' : World) : Prop where
  lf : w'.heap[lb]? = some (.cells #[.int .i64 lv] 3 (0, 0))
  tl : Tl 38 w0 B tb L Aa ca A w'
  fr : Fr B (Xb lb tb) w w'
  hb : w0.heap.size ≤ lb
  h1 : lb < w.heap.size
  h2 : tb < w.heap.size
section
variable {w0 w w' w2 : World} {B lb tb : Nat} {L : List ByteArray} {Aa : Option Addr} {ca : Nat} {A A2 : List As} {lv lv1 : Int}
theorem Rs.below (h : Rs w0 w B lb tb L Aa ca lv A w') (hb : Below w'.heap.size w' w2) : Rs w0 w B lb tb L Aa ca lv A w2 :=
  ⟨blk_below h.lf hb, h.tl.below hb, h.fr.trans (Fr.below hb), h.hb, h.h1, h.h2⟩
theorem Rs.dec (h : Rs w0 w B lb tb L Aa ca lv A w') (lv1 : Int) : Rs w0 w B lb tb L Aa ca lv1 A (w'.setCell ⟨lb, 0, none⟩ (.int .i64 lv1)) :=
  ⟨blk_put h.lf 0 _ rfl, h.tl.set (p := ⟨lb, 0, none⟩) h.lf h.hb (by decide) (by decide) _, Fr.set (p := ⟨lb, 0, none⟩) h.fr (Or.inr rfl) _, h.hb, h.h1, h.h2⟩
theorem Rs.asked (h : Rs w0 w B lb tb L Aa ca lv A w') (ht : Tl 38 w0 B tb L Aa ca A2 w2) (hf : Fr B (fun k => k = tb) w' w2) : Rs w0 w B lb tb L Aa ca lv A2 w2 := by
  refine ⟨hf.at h.lf ?_ (by decide), ht, h.fr.trans (hf.mono (fun k hk => Or.inl hk)), h.hb, h.h1, h.h2⟩
  obtain ⟨v, hg, _⟩ := h.tl.tel
  exact blk_ne h.lf hg (by decide)
theorem Rs.inner {w3 : World} (h : Rs w0 w B lb tb L Aa ca lv A w') (h2 : Rs w0 w' B lb tb L Aa ca lv1 A2 w3) : Rs w0 w B lb tb L Aa ca lv1 A2 w3 := ⟨h2.lf, h2.tl, h.fr.trans h2.fr, h.hb, h.h1, h.h2⟩
theorem Rs.start (h : Rs w0 w B lb tb L Aa ca lv A w') : Rs w0 w' B lb tb L Aa ca lv A w' := ⟨h.lf, h.tl, Fr.refl _ _ _, h.hb, blk_lt h.lf, by obtain ⟨v, hg, _⟩ := h.tl.tel; exact blk_lt hg⟩
theorem Rs.newer (h : Rs w0 w B lb tb L Aa ca lv A w') : ¬ Xb lb tb w'.heap.size := by
  have := h.h1
  have := h.h2
  have := h.fr.1
  intro hx
  rcases hx with e | e <;> omega
end
/-- How a reading ends. -/
def DoneR (w0 w : World) (B lb tb : Nat) (L : List ByteArray) (Aa : Option Addr) (ca : Nat) (r : Res) (e : Ending) (w' : World) : Prop :=
  match r with
  | .ok o A => e = .returned (.tuple #[.string (mkB o), .bool true]) ∧ Rs w0 w B lb tb L Aa ca (500 - (A.length : Int)) A w'
  | .lim A => e = .returned (.tuple #[.string ⟨#[]⟩, .bool false]) ∧ ∃ lv, Rs w0 w B lb tb L Aa ca lv A w'
end Go.Proofs.Ytpflnhbhgcediaa.Ex4
