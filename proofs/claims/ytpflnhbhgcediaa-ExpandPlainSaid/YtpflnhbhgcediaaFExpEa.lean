/- reader.expand of any text, whatever is answered. -/
import Derived.Test.YtpflnhbhgcediaaFLookEa
namespace Go.Proofs.Ytpflnhbhgcediaa.Ex4
open Go.RowKit Go.Proofs.YtpflnhbhgcediaaW.PrintWords Go.Proofs.YtpflnhbhgcediaaW.PrintLast Go.Proofs.YtpflnhbhgcediaaW.PrintMore Go.Proofs.YtpflnhbhgcediaaN Go.Proofs.Ytpflnhbhgcediaa.FnVal Go.Proofs.Ytpflnhbhgcediaa.Str Go.Proofs.Ytpflnhbhgcediaa.Esc4 Go.Proofs.Ytpflnhbhgcediaa.Ask4 Go.Proofs.Ytpflnhbhgcediaa.Plain4 Go.Proofs.Ytpflnhbhgcediaa.QEa
set_option linter.unusedVariables false
set_option linter.unusedSimpArgs false
theorem ask_kept {w w2 : World} {B : Nat} {ok : Nat → Prop} {v : Value} {A : List As} (h : askK.R 55 w B ok v A) (hm : ∀ k, v.ownBlock = some k → w2.heap[k]? = w.heap[k]?) : askK.R 55 w2 B ok v A :=
  Kd.R_mono (Kd.R_move (Kd.R_tight rfl h) (fun k hk => hm k hk.symm)) (fun k hk => h.1 k hk.symm)
/-- A step of a builder that is younger leaves the reader and whom it asks. -/
theorem Sr.oth {w0 : World} {B b tb m : Nat} {cp : Bool} {L : List ByteArray} {Aa : Option Addr} {ca : Nat} {A : List As} {w w1 : World} (h : Sr w0 B b tb cp L Aa ca A w) (hb : Below m w w1) (ho : Lib.OthersKept 5 (some m) w w1) (h1 : b < m) (h2 : tb < m) (h3 : w0.heap.size ≤ m) {cs : Array Value} (hm : w.heap[m]? = some (.cells cs 66 (0, 0))) : Sr w0 B b tb cp L Aa ca A w1 := by
  obtain ⟨hrd, ⟨⟨v, hg, hr⟩, hbel, hB, hBw, htb, hC⟩, hhb⟩ := h
  refine ⟨(hb.block b h1).trans hrd, ⟨⟨v, (hb.block tb h2).trans hg, ask_kept hr (fun k hk => ?_)⟩, hbel.trans (hb.mono h3), hB, Nat.le_trans hBw hb.size, htb, hC⟩, hhb⟩
  obtain ⟨c2, hc2⟩ := Kd.R_typed hr k hk
  refine (ho k _ hc2 (fun e => ?_) (fun c fz e => ?_)).trans hc2.symm
  · injection e with e
    subst e
    exact blk_ne hc2 hm (by decide) rfl
  · injection e with _ e _
    exact absurd e (by decide)
theorem bld_fr {w w1 : World} {B m : Nat} {X : Nat → Prop} {l : List UInt8} (h : Lib.IsBuilderF 66 5 m m (Lib.byteCells l) w) (hf : Fr B X w w1) (hX : ¬ X m) (hX5 : ∀ k, X k → ∃ cs t, w.heap[k]? = some (.cells cs t (0, 0)) ∧ t ≠ 5) : Lib.IsBuilderF 66 5 m m (Lib.byteCells l) w1 := by
  have key : ∀ p, Lib.BuilderAtF 66 5 m m p (Lib.byteCells l) w → Lib.BuilderAtF 66 5 m m p (Lib.byteCells l) w1 := by
    rintro p ⟨hB, v, hv, hown, hne⟩
    refine ⟨hB, v, hf.at hv hX (by decide), ⟨hown.1, ?_⟩, hne⟩
    rcases hown.2 with hn | ⟨g, cap, cur, fz, hv2, hb, hgg, rest⟩
    · exact .inl hn
    · refine .inr ⟨g, cap, cur, fz, hv2, hb, hf.at hgg (fun hx => ?_) (by decide), rest⟩
      obtain ⟨cs, t, hc, ht⟩ := hX5 g hx
      rw [hgg] at hc
      injection hc with hc
      injection hc with _ e _
      exact ht e.symm
  exact h.elim (fun x => .inl (key _ x)) (fun x => .inr (key _ x))
def Xb (b tb : Nat) (k : Nat) : Prop := k = tb ∨ k = b
/-- What stands while a text is read. -/
structure Se (w0 w : World) (B b tb : Nat) (cp : Bool) (L : List ByteArray) (Aa : Option Addr) (ca : Nat) (A : List As) (l : List UInt8) (w' : World) : Prop where
  bld : Lib.IsBuilderF 66 5 w.heap.size w.heap.size (Lib.byteCells l) w'
  sr : Sr w0 B b tb cp L Aa ca A w'
  fr : Fr B (Xb b tb) w w'
  siz : w.heap.size ≤ w'.heap.size
  h1 : b < w.heap.size
  h2 : tb < w.heap.size
  h3 : w0.heap.size ≤ w.heap.size
section
variable {w0 w w' w2 : World} {B b tb : Nat} {cp : Bool} {L : List ByteArray} {Aa : Option Addr} {ca : Nat} {A A2 : List As} {l : List UInt8}
theorem Se.bl (h : Se w0 w B b tb cp L Aa ca A l w') : ∃ cs, w'.heap[w.heap.size]? = some (.cells cs 66 (0, 0)) :=
  h.bld.elim (fun ⟨_, v, hv, _⟩ => ⟨_, hv⟩) (fun ⟨_, v, hv, _⟩ => ⟨_, hv⟩)
theorem Sr.x5 (h : Sr w0 B b tb cp L Aa ca A w) : ∀ k, Xb b tb k → ∃ cs t, w.heap[k]? = some (.cells cs t (0, 0)) ∧ t ≠ 5 := by
  intro k hk
  rcases hk with rfl | rfl
  · obtain ⟨v, hg, _⟩ := h.tl.tel
    exact ⟨_, _, hg, by decide⟩
  · exact ⟨_, _, h.rd, by decide⟩
theorem Se.asked (h : Se w0 w B b tb cp L Aa ca A l w') (hs : Sr w0 B b tb cp L Aa ca A2 w2) (hf : Fr B (Xb b tb) w' w2) : Se w0 w B b tb cp L Aa ca A2 l w2 :=
  ⟨bld_fr h.bld hf (fun hx => by rcases hx with e | e <;> (have := h.h1; have := h.h2; omega)) h.sr.x5, hs, h.fr.trans hf, Nat.le_trans h.siz hf.1, h.h1, h.h2, h.h3⟩
theorem Se.below (h : Se w0 w B b tb cp L Aa ca A l w') (hb : Below w'.heap.size w' w2) : Se w0 w B b tb cp L Aa ca A l w2 := h.asked (h.sr.below hb) (Fr.below hb)
theorem Se.put (h : Se w0 w B b tb cp L Aa ca A l w') {l2 : List UInt8} (hb : Below w.heap.size w' w2) (ho : Lib.OthersKept 5 (some w.heap.size) w' w2) (hd : Lib.IsBuilderF 66 5 w.heap.size w.heap.size (Lib.byteCells l2) w2) : Se w0 w B b tb cp L Aa ca A l2 w2 := by
  obtain ⟨cs, hcs⟩ := h.bl
  exact ⟨hd, h.sr.oth hb ho h.h1 h.h2 h.h3 hcs, ⟨Nat.le_trans h.fr.1 hb.size, fun i hi hn => (hb.block i hi).trans (h.fr.2 i hi hn)⟩, Nat.le_trans h.siz hb.size, h.h1, h.h2, h.h3⟩
theorem wse (h : Se w0 w B b tb cp L Aa ca A l w') (s : ByteArray) (hs : l.length + s.size ≤ 1000000) :
    Calls Try.prog 27 #[.pointer (some ⟨w.heap.size, 0, none⟩), .string s] w' fun e w2 => e = .returned (.tuple #[.int .i64 s.size, .nilIface]) ∧ Se w0 w B b tb cp L Aa ca A (l ++ s.data.toList) w2 ∧ Lib.OthersKept 5 (some w.heap.size) w' w2 := by
  refine (Any.Builder_WriteString_k Lay.l166 Lay.extra w.heap.size w.heap.size (Lib.byteCells l) s w' h.bld (by simp [Lib.byteCells]; omega) h.siz).mono ?_
  rintro e w2 ⟨rfl, hb, hbel, hoth⟩
  refine ⟨rfl, h.put hbel hoth (.inr ?_), hoth⟩
  have e : Lib.byteCells (l ++ s.data.toList) = Lib.byteCells l ++ Lib.strCells s := by simp [Lib.byteCells, Lib.strCells]
  rw [e]
  exact hb
theorem wbe (h : Se w0 w B b tb cp L Aa ca A l w') (c : UInt8) (C : Int) (hC : (c.toNat : Int) = C) (hs : l.length ≤ 1000000) :
    Calls Try.prog 33 #[.pointer (some ⟨w.heap.size, 0, none⟩), .int .u8 C] w' fun e w2 => e = .returned .nilIface ∧ Se w0 w B b tb cp L Aa ca A (l ++ [c]) w2 := by
  subst hC
  refine (Any.Builder_WriteByte_k Lay.l167 Lay.extra167 w.heap.size w.heap.size (Lib.byteCells l) (c.toNat : Int) w' h.bld (by simp [Lib.byteCells]; omega) h.siz).mono ?_
  rintro e w2 ⟨rfl, hb, hbel, hoth⟩
  refine ⟨rfl, h.put hbel hoth (.inr ?_)⟩
  have e : Lib.byteCells (l ++ [c]) = Lib.byteCells l ++ [Value.int .u8 (c.toNat : Int)] := by simp [Lib.byteCells]
  rw [e]
  exact hb
theorem lene (h : Se w0 w B b tb cp L Aa ca A l w') :
    Calls Try.prog 30 #[.pointer (some ⟨w.heap.size, 0, none⟩)] w' fun e w2 => e = .returned (.int .i64 (l.length : Int)) ∧ w2 = w' := by
  refine (Any.Builder_Len_f Lay.l170 w.heap.size w.heap.size (Lib.byteCells l) w' h.bld).mono ?_
  rintro e w2 ⟨rfl, rfl⟩
  exact ⟨by simp [Lib.byteCells], rfl⟩
theorem stre (h : Se w0 w B b tb cp L Aa ca A l w') :
    Calls Try.prog 32 #[.pointer (some ⟨w.heap.size, 0, none⟩)] w' fun e w2 => e = .returned (.string (mkB l)) ∧ Sr w0 B b tb cp L Aa ca A w2 ∧ Fr B (Xb b tb) w w2 := by
  refine (Any.Builder_String_any_k Lay.l169 Lay.extra169 w.heap.size w.heap.size l w' h.bld h.siz).mono ?_
  rintro e w2 ⟨rfl, hi, hbel, hoth⟩
  have h2 := h.put hbel hoth hi
  exact ⟨rfl, h2.sr, h2.fr⟩
theorem Se.bl_lt (h : Se w0 w B b tb cp L Aa ca A l w') : w.heap.size < w'.heap.size := by
  obtain ⟨cs, hcs⟩ := h.bl
  exact blk_lt hcs
theorem Se.newer (h : Se w0 w B b tb cp L Aa ca A l w') : ¬ Xb b tb w'.heap.size := by
  have := h.h1
  have := h.h2
  have := h.siz
  intro hx
  rcases hx with e | e <;> omega
theorem Se.new_ne (h : Se w0 w B b tb cp L Aa ca A l w') : some w'.heap.size ≠ some w.heap.size := by
  have := h.bl_lt
  intro e
  injection e with e
  omega
end
theorem esc_step {s : List UInt8} {e : Es} (h : esc s = some e) : -10 ≤ e.step ∧ e.step ≤ 10 := by
  have mk : ∀ {k : UInt8} {st : Int} {base : Nat} {p : List UInt8 × Nat}, mkE k st base p = some e → e.step = st := by
    intro k st base p h
    unfold mkE at h
    split at h
    · cases h
    · obtain rfl := Option.some.inj h
      rfl
  match s, h with
  | b :: k :: c :: r, h =>
    rw [esc] at h
    split at h
    · unfold esc3 at h
      split at h
      · split at h
        · rw [mk h]; decide
        · split at h
          · rw [mk h]; decide
          · rw [mk h]; decide
      · split at h
        · rw [mk h]; decide
        · cases h
    · cases h
/-- How a reading ends. -/
def Done (w0 w : World) (B b tb : Nat) (cp : Bool) (L : List ByteArray) (Aa : Option Addr) (ca : Nat) (r : Res) (e : Ending) (w' : World) : Prop :=
  match r with
  | .ok o A => e = .returned (.string (mkB o)) ∧ Sr w0 B b tb cp L Aa ca A w' ∧ Fr B (Xb b tb) w w'
  | .lim A => e = .panicked lim4 ∧ Sr w0 B b tb cp L Aa ca A w' ∧ Fr B (Xb b tb) w w'
end Go.Proofs.Ytpflnhbhgcediaa.Ex4
