/- teller.look and reader.ask, walked. -/
import Derived.Test.YtpflnhbhgcediaaFAnsEa
import Derived.Test.YtpflnhbhgcediaaFSaneCEx
import Derived.WalkSmall
namespace Go.Proofs.Ytpflnhbhgcediaa.Ex4
open Go.RowKit Go.Proofs.YtpflnhbhgcediaaW.PrintWords Go.Proofs.YtpflnhbhgcediaaW.PrintLast Go.Proofs.YtpflnhbhgcediaaW.PrintMore Go.Proofs.YtpflnhbhgcediaaN Go.Proofs.Ytpflnhbhgcediaa.FnVal Go.Proofs.Ytpflnhbhgcediaa.Str Go.Proofs.Ytpflnhbhgcediaa.Esc4 Go.Proofs.Ytpflnhbhgcediaa.Ask4 Go.Proofs.Ytpflnhbhgcediaa.Plain4
set_option linter.unusedVariables false
set_option linter.unusedSimpArgs false
theorem ans_calls (T : TypeId) (hT : T ≠ 55) (w0 : World) (B tb : Nat) (L : List ByteArray) (hL : L.length ≤ 1000) (Aa : Option Addr) (ca : Nat) (A : List As) (a : As) (w : World) (h : Tl T w0 B tb L Aa ca A w) (hA : A.length ≤ 1000) (hn : a.name.length ≤ 8000) (hs : -10 ≤ a.step ∧ a.step ≤ 10) :
    Calls Try.prog 21 #[.pointer (some ⟨tb, 0, none⟩), .agg (askC a).toArray] w fun e w' => e = .returned (.string (ansB L a)) ∧ Tl T w0 B tb L Aa ca (A ++ [a]) w' ∧ Fr B (fun k => k = tb) w w' := by
  by_cases h0 : L.length = 0
  · obtain rfl := List.length_eq_zero_iff.1 h0
    exact ans_nil T hT w0 B tb Aa ca A a w h hA
  · exact ans_some T hT w0 B tb L h0 hL Aa ca A a w h hA hn hs
set_option maxHeartbeats 2000000 in
set_option maxRecDepth 100000 in
theorem look_calls (w0 : World) (B tb : Nat) (L : List ByteArray) (hL : L.length ≤ 1000) (Aa : Option Addr) (ca : Nat) (A : List As) (a : As) (w : World) (h : Tl 40 w0 B tb L Aa ca A w) (hA : A.length ≤ 1000) (hn : a.name.length ≤ 8000) (hs : -10 ≤ a.step ∧ a.step ≤ 10) :
    Calls Try.prog 13 #[.pointer (some ⟨tb, 0, none⟩), .int .u8 (a.kind.toNat : Int), .string (mkB a.name), .int .i64 a.step] w fun e w' => e = .returned (.string (ansB L a)) ∧ Tl 40 w0 B tb L Aa ca (A ++ [a]) w' ∧ Fr B (fun k => k = tb) w w' := by
  have HAN := Aside0.mk (ans_calls 40 (by decide) w0 B tb L hL Aa ca A a w h hA hn hs)
  clear h hA hn hs hL
  go_enter Try.func13, Try.ntmps13
  go_wp2_with (first | (go_at_call 21; refine (HAN.out).mono ?_; rintro e w2 ⟨rfl, h2⟩; have H2 := Aside0.mk h2; clear h2))
  refine bodyPost_ret (results_tmp rfl _ _ _) rfl ?_
  exact ⟨rfl, H2.out⟩
/-- The reader: whom it asks, copy mode, how often it has asked. -/
def rdr (tb : Nat) (cp : Bool) (n : Int) : Array Value := #[.func (.func 13) #[.pointer (some ⟨tb, 0, none⟩)] #[], .bool cp, .int .i64 n]
structure Sr (w0 : World) (B b tb : Nat) (cp : Bool) (L : List ByteArray) (Aa : Option Addr) (ca : Nat) (A : List As) (w : World) : Prop where
  rd : w.heap[b]? = some (.cells (rdr tb cp (A.length : Int)) 51 (0, 0))
  tl : Tl 40 w0 B tb L Aa ca A w
  hb : w0.heap.size ≤ b
theorem Tl.set {T : TypeId} {w0 : World} {B tb : Nat} {L : List ByteArray} {Aa : Option Addr} {ca : Nat} {A : List As} {w : World} (h : Tl T w0 B tb L Aa ca A w) {p : Addr} {cs : Array Value} {t : TypeId} (hp : w.heap[p.block]? = some (.cells cs t (0, 0))) (h0 : w0.heap.size ≤ p.block) (h1 : t ≠ T) (h2 : t ≠ 55) (u : Value) : Tl T w0 B tb L Aa ca A (w.setCell p u) := by
  obtain ⟨⟨v, hg, ho⟩, hbel, hB, hBw, htb, hC⟩ := h
  have hne : tb ≠ p.block := blk_ne hg hp (fun e => h1 e.symm)
  have hown : some p.block ≠ v.ownBlock := by
    intro e
    obtain ⟨cs2, hc⟩ := Kd.R_typed ho p.block e.symm
    exact blk_ne hp hc h2 rfl
  refine ⟨⟨v, blk_far hg hne u, ?_⟩, hbel.setCell h0 _, hB, by simp [World.setCell]; omega, htb, hC⟩
  exact Kd.R_mono (Kd.R_far (Kd.R_far1 ho rfl hown) (fun k hk => hk.2) u) (fun k hk => hk.1)
theorem Tl.below {T : TypeId} {w0 : World} {B tb : Nat} {L : List ByteArray} {Aa : Option Addr} {ca : Nat} {A : List As} {w w1 : World} (h : Tl T w0 B tb L Aa ca A w) (hb : Below w.heap.size w w1) : Tl T w0 B tb L Aa ca A w1 := by
  obtain ⟨⟨v, hg, ho⟩, hbel, hB, hBw, htb, hC⟩ := h
  exact ⟨⟨v, blk_below hg hb, Kd.R_below ho hb⟩, hbel.trans (hb.mono hbel.size), hB, Nat.le_trans hBw hb.size, htb, hC⟩
theorem Sr.below {w0 : World} {B b tb : Nat} {cp : Bool} {L : List ByteArray} {Aa : Option Addr} {ca : Nat} {A : List As} {w w1 : World} (h : Sr w0 B b tb cp L Aa ca A w) (hb : Below w.heap.size w w1) : Sr w0 B b tb cp L Aa ca A w1 :=
  ⟨blk_below h.rd hb, h.tl.below hb, h.hb⟩
/-- What was thrown. -/
def lim4 : List PanicEntry := [{ v := .iface 47 (.agg #[]), recovered := false }]
set_option maxHeartbeats 2000000 in
set_option maxRecDepth 100000 in
theorem ask_full (w0 : World) (B b tb : Nat) (cp : Bool) (L : List ByteArray) (Aa : Option Addr) (ca : Nat) (A : List As) (k : Int) (nm : ByteArray) (st : Int) (w : World) (h : Sr w0 B b tb cp L Aa ca A w) (hA : A.length = 500) :
    Calls Try.prog 29 #[.pointer (some ⟨b, 0, none⟩), .int .u8 k, .string nm, .int .i64 st] w fun e w' => e = .panicked lim4 ∧ w' = w := by
  have h2 : w.cell? ⟨b, 2, none⟩ = some (.int .i64 500) := (Lib.cell_of_heap h.rd 2).trans (by rw [hA]; rfl)
  have HB := Aside0.mk h
  clear h
  go_enter Try.func29, Try.ntmps29
  go_wp2
  exact ⟨rfl, rfl, rfl⟩
set_option maxHeartbeats 2000000 in
set_option maxRecDepth 100000 in
theorem ask_some (w0 : World) (B b tb : Nat) (cp : Bool) (L : List ByteArray) (hL : L.length ≤ 1000) (Aa : Option Addr) (ca : Nat) (A : List As) (a : As) (w : World) (h : Sr w0 B b tb cp L Aa ca A w) (hA : A.length < 500) (hn : a.name.length ≤ 8000) (hs : -10 ≤ a.step ∧ a.step ≤ 10) :
    Calls Try.prog 29 #[.pointer (some ⟨b, 0, none⟩), .int .u8 (a.kind.toNat : Int), .string (mkB a.name), .int .i64 a.step] w fun e w' => e = .returned (.string (ansB L a)) ∧ Sr w0 B b tb cp L Aa ca (A ++ [a]) w' ∧ Fr B (fun k => k = tb ∨ k = b) w w' := by
  obtain ⟨n, hn2⟩ : ∃ n : Nat, A.length = n := ⟨_, rfl⟩
  have h2 : w.cell? ⟨b, 2, none⟩ = some (.int .i64 (n : Int)) := (Lib.cell_of_heap h.rd 2).trans (by rw [hn2]; rfl)
  have z2 : w.frozen? ⟨b, 2, none⟩ = false := Lib.frozen_of_heap h.rd 2
  have t1 : ((n : Int) == 500) = false := beq_eq_false_iff_ne.2 (by omega)
  obtain ⟨m, hm⟩ : ∃ m : Int, ((n + 1 : Nat) : Int) = m := ⟨_, rfl⟩
  have tw : wrap64 ((n : Int) + 1) = m := by rw [Evl.wn (by omega), hm]
  have hrd := blk_set h.rd 2 (.int .i64 m)
  have h0 := (blk_cell hrd 0).trans (show _ = some (.func (.func 13) #[.pointer (some ⟨tb, 0, none⟩)] #[]) from rfl)
  have htl := h.tl.set (p := ⟨b, 2, none⟩) h.rd h.hb (by decide) (by decide) (.int .i64 m)
  have HLK := Aside0.mk (look_calls w0 B tb L hL Aa ca A a _ htl (by omega) hn hs)
  have HRD := Aside0.mk hrd
  have HFR := Aside0.mk (Fr.set (X := fun k => k = tb ∨ k = b) (p := ⟨b, 2, none⟩) (Fr.refl B _ w) (Or.inr rfl) (.int .i64 m))
  have HHB := Aside0.mk h.hb
  have HTB := Aside0.mk (show ¬ b = tb by obtain ⟨v, hg, _⟩ := h.tl.tel; exact blk_ne h.rd hg (by decide))
  have HN2 := Aside0.mk hn2
  have HM := Aside0.mk hm
  clear h hA hn hs hL hrd htl hn2 hm
  go_enter Try.func29, Try.ntmps29
  go_wp2_with (first | (go_at_call 13; refine (HLK.out).mono ?_; rintro e w2 ⟨rfl, ht2, hf2⟩; have H2 := Aside0.mk (And.intro ht2 hf2); clear ht2 hf2))
  refine bodyPost_ret (results_tmp rfl _ _ _) rfl ?_
  refine ⟨rfl, ⟨?_, H2.out.1, HHB.out⟩, HFR.out.trans (H2.out.2.mono (fun k hk => Or.inl hk))⟩
  rw [List.length_append, HN2.out]
  have e : ((n + [a].length : Nat) : Int) = m := HM.out
  rw [e]
  exact H2.out.2.at HRD.out HTB.out (by decide)
end Go.Proofs.Ytpflnhbhgcediaa.Ex4
