/- World.Answer, walked: the question is noted, an answer is picked. -/
import Derived.Test.YtpflnhbhgcediaaEx4Ea
import Derived.Test.YtpflnhbhgcediaaFnVal
import Derived.Deep.RegionLaw
namespace Go.Proofs.Ytpflnhbhgcediaa.Ex4
open Go.RowKit Go.Proofs.YtpflnhbhgcediaaW.PrintWords Go.Proofs.YtpflnhbhgcediaaW.PrintLast Go.Proofs.YtpflnhbhgcediaaW.PrintMore Go.Proofs.YtpflnhbhgcediaaN Go.Proofs.Ytpflnhbhgcediaa.Str Go.Proofs.Ytpflnhbhgcediaa.Esc4 Go.Proofs.Ytpflnhbhgcediaa.Ask4 Go.Proofs.Ytpflnhbhgcediaa.Plain4
set_option linter.unusedVariables false
set_option linter.unusedSimpArgs false
/-- A question in three cells. -/
def askK : Kd As := Kd.iso (Kd.pair (Kd.int .u8) (Kd.pair Kd.string (Kd.int .i64))) (fun a => ((a.kind.toNat : Int), (mkB a.name, a.step)))
def askC (a : As) : List Value := [.int .u8 (a.kind.toNat : Int), .string (mkB a.name), .int .i64 a.step]
theorem askM (w : World) (base : Nat) (ok : Nat → Prop) (a : As) : askK.M w base ok a (askC a) := ⟨[.int .u8 (a.kind.toNat : Int)], [.string (mkB a.name), .int .i64 a.step], rfl, rfl, [.string (mkB a.name)], [.int .i64 a.step], rfl, rfl, rfl⟩
theorem askS : 0 < askK.sz := by decide
theorem h32 : 0 < 32 := by decide
theorem infoA : (Try.prog.info? 55).map (fun i => (i.zero, i.size, i.bytes)) = some (some (.agg #[.int .u8 0, .string ⟨#[]⟩, .int .i64 0]), 3, 32) := by kernel_rfl
/-- All blocks stay but some, and but the rows of questions from B on. -/
def Fr (B : Nat) (X : Nat → Prop) (w w' : World) : Prop := Kept w w' (fun k => X k ∨ (B ≤ k ∧ ∃ cs fz, w.heap[k]? = some (.cells cs 55 fz)))
theorem Fr.refl (B : Nat) (X : Nat → Prop) (w : World) : Fr B X w w := Kept.refl _ _
theorem Fr.trans {B : Nat} {X : Nat → Prop} {w w1 w2 : World} (h : Fr B X w w1) (h2 : Fr B X w1 w2) : Fr B X w w2 := by
  refine ⟨Nat.le_trans h.1 h2.1, fun i hi hn => ?_⟩
  have e1 := h.2 i hi hn
  refine (h2.2 i (Nat.lt_of_lt_of_le hi h.1) (fun hx => hn ?_)).trans e1
  rcases hx with hx | ⟨hb, cs, fz, he⟩
  · exact .inl hx
  · exact .inr ⟨hb, cs, fz, e1.symm.trans he⟩
theorem Fr.mono {B : Nat} {X Y : Nat → Prop} {w w1 : World} (h : Fr B X w w1) (hxy : ∀ k, X k → Y k) : Fr B Y w w1 := Kept.mono h (fun k hk => hk.imp (hxy k) id)
theorem Fr.below {B : Nat} {X : Nat → Prop} {w w1 : World} (h : Below w.heap.size w w1) : Fr B X w w1 := Kept.of_below h _
theorem Fr.at {B : Nat} {X : Nat → Prop} {w w1 : World} (h : Fr B X w w1) {g : Nat} {cs : Array Value} {t : TypeId} {fz : Nat × Nat} (hg : w.heap[g]? = some (.cells cs t fz)) (hX : ¬ X g) (ht : t ≠ 55) : w1.heap[g]? = some (.cells cs t fz) := by
  refine (h.2 g (blk_lt hg) (fun hx => ?_)).trans hg
  rcases hx with hx | ⟨_, c2, f2, he⟩
  · exact hX hx
  · rw [hg] at he
    injection he with he
    injection he with _ he _
    exact ht he
theorem Fr.set {B : Nat} {X : Nat → Prop} {w w1 : World} (h : Fr B X w w1) {p : Addr} (hp : X p.block) (u : Value) : Fr B X w (w1.setCell p u) := by
  refine ⟨by have := h.1; simp [World.setCell]; omega, fun i hi hn => ?_⟩
  exact (Below.heap_setCell w1 p u i (fun e => hn (.inl (by rw [e]; exact hp)))).trans (h.2 i hi hn)
def sumB (l : List UInt8) : Int := (l.map fun c => (c.toNat : Int)).sum
def ansN (a : As) : Int := (a.kind.toNat : Int) + 3 * (a.name.length : Int) + a.step + sumB a.name
def ansB (L : List ByteArray) (a : As) : ByteArray := if L.length = 0 then ⟨#[]⟩ else rdOf ByteArray.empty L ((max 0 (ansN a)).tmod (L.length : Int))
def anL (L : List ByteArray) (a : As) : List UInt8 := (ansB L a).data.toList
/-- Who is asked: the questions so far, the answers. -/
structure Tl (T : TypeId) (w0 : World) (B tb : Nat) (L : List ByteArray) (Aa : Option Addr) (ca : Nat) (A : List As) (w : World) : Prop where
  tel : ∃ v, w.heap[tb]? = some (.cells #[v, .slice Aa L.length ca] T (0, 0)) ∧ askK.R 55 w B (fun k => k ≠ tb) v A
  bel : Below w0.heap.size w0 w
  hB : w0.heap.size ≤ B
  hBw : B ≤ w.heap.size
  htb : w0.heap.size ≤ tb
  hC : Kd.string.C w0 Aa L.length L
theorem sum_le : ∀ l : List UInt8, 0 ≤ sumB l ∧ sumB l ≤ 255 * (l.length : Int)
  | [] => by simp [sumB]
  | c :: l => by
    have ih := sum_le l
    have hc : c.toNat < 256 := c.toNat_lt
    simp only [sumB, List.map_cons, List.sum_cons, List.length_cons] at ih ⊢
    omega
theorem grown_fr {B : Nat} {X ok : Nat → Prop} {v : Value} {A : List As} {w w3 w6 : World} (ho : askK.R 55 w B ok v A) (hb : Below w.heap.size w w3) (hg : w3.drew.grownBy w6 v.ownBlock) : Fr B X w w6 := by
  refine ⟨Nat.le_trans hb.size hg.size, fun i hi hn => ?_⟩
  refine (hg.block i (Nat.lt_of_lt_of_le hi hb.size) (fun e => hn ?_)).trans (hb.block i hi)
  obtain ⟨cs, hc⟩ := Kd.R_typed ho i e.symm
  exact .inr ⟨Kd.R_base ho i e.symm, cs, _, hc⟩
theorem ans_end {T : TypeId} {w0 : World} {B tb : Nat} {L : List ByteArray} {Aa : Option Addr} {ca : Nat} {A : List As} {a : As} {w w3 w6 : World} {v v6 : Value} (h : Tl T w0 B tb L Aa ca A w) (ho : askK.R 55 w B (fun k => k ≠ tb) v A) (hb : Below w.heap.size w w3)
    (hg6 : w3.drew.grownBy w6 v.ownBlock) (hg : w6.heap[tb]? = some (.cells #[v, .slice Aa L.length ca] T (0, 0))) (ho6 : askK.R 55 w6 B (fun k => k ≠ tb) v6 (A ++ [a])) (b6 : Below B w w6) :
    Tl T w0 B tb L Aa ca (A ++ [a]) (w6.setCell ⟨tb, 0, none⟩ v6) ∧ Fr B (fun k => k = tb) w (w6.setCell ⟨tb, 0, none⟩ v6) :=
  ⟨⟨⟨v6, blk_put hg 0 v6 rfl, Kd.R_far (p := ⟨tb, 0, none⟩) ho6 (fun k hk => hk) _⟩, (h.bel.trans ⟨b6.os, b6.tape, b6.output, b6.size, fun k hk => b6.block k (Nat.lt_of_lt_of_le hk h.hB)⟩).setCell h.htb _, h.hB, by
    have h1 := h.hBw
    have h2 := b6.size
    show B ≤ (w6.setCell ⟨tb, 0, none⟩ v6).heap.size
    simp [World.setCell]
    omega, h.htb, h.hC⟩, Fr.set (X := fun k => k = tb) (p := ⟨tb, 0, none⟩) (grown_fr ho hb hg6) rfl _⟩
theorem Tl.drew {T : TypeId} {w0 : World} {B tb : Nat} {L : List ByteArray} {Aa : Option Addr} {ca : Nat} {A : List As} {w : World} (h : Tl T w0 B tb L Aa ca A w) : Tl T w0 B tb L Aa ca A w.drew := by
  obtain ⟨⟨v, hg, ho⟩, hbel, hB, hBw, htb, hC⟩ := h
  exact ⟨⟨v, blk_drew hg, Kd.R_drew ho⟩, below_drew1 hbel, hB, hBw, htb, hC⟩
theorem Fr.drew {B : Nat} {X : Nat → Prop} {w w1 : World} (h : Fr B X w w1) : Fr B X w w1.drew := h
theorem ans_start {K st : Int} {n : Nat} (h1 : 0 ≤ K ∧ K < 256) (h2 : -10 ≤ st ∧ st ≤ 10) (h3 : n ≤ 8000) : wrap64 (wrap64 (wrap64 K + wrap64 (3 * (n : Int))) + st) = K + 3 * (n : Int) + st := by
  rw [w64 (x := K) (by omega) (by omega), w64 (x := 3 * (n : Int)) (by omega) (by omega), w64 (x := K + 3 * (n : Int)) (by omega) (by omega), w64 (by omega) (by omega)]
theorem sum_next (l : List UInt8) (j : Nat) (h : j < l.length) : sumB (l.take (j + 1)) = sumB (l.take j) + (l[j].toNat : Int) := by
  rw [List.take_add_one, List.getElem?_eq_getElem h]
  unfold sumB
  rw [List.map_append, List.sum_append]
  simp
set_option maxHeartbeats 4000000 in
set_option maxRecDepth 100000 in
theorem ans_nil (T : TypeId) (hT : T ≠ 55) (w0 : World) (B tb : Nat) (Aa : Option Addr) (ca : Nat) (A : List As) (a : As) (w : World) (h : Tl T w0 B tb [] Aa ca A w) (hA : A.length ≤ 1000) :
    Calls Try.prog 21 #[.pointer (some ⟨tb, 0, none⟩), .agg (askC a).toArray] w fun e w' => e = .returned (.string ⟨#[]⟩) ∧ Tl T w0 B tb [] Aa ca (A ++ [a]) w' ∧ Fr B (fun k => k = tb) w w' := by
  have HT := Aside0.mk h
  obtain ⟨⟨v, hg, ho⟩, hbel, hB, hBw, htb, hC⟩ := h
  obtain ⟨Ao, co, rfl⟩ := Kd.R_slice ho
  have HG := Aside0.mk hg
  have HO := Aside0.mk ho
  have HB := Aside0.mk hbel
  have HBB := Aside0.mk hB
  have HBw := Aside0.mk hBw
  have HTB := Aside0.mk htb
  have HA := Aside0.mk hA
  have HC := Aside0.mk hC
  have hu := Try.underlying55
  clear hg ho hbel hB hBw htb hA hC hT
  go_enter Try.func21, Try.ntmps21
  go_wp2_with (first | ((with_reducible refine gate_dst (N := 3) rfl ?_); refine box_event ?hg (N := 3) ?hd (cs := (askC a).toArray) (t := 55) ?hr ?_; (case hd => rfl); (case hg => rfl); (case hr => first | (go_simp; done) | (go_simp; rfl)); intro gb hg w3 hbox hb; have X3 := Aside0.mk hbox; have G3 := Aside0.mk (blk_below HG.out hb); have O3 := Aside0.mk (Kd.R_below HO.out hb); have B3 := Aside0.mk (HB.out.trans (hb.mono (Nat.le_trans HBB.out HBw.out))); have S3 := Aside0.mk (Nat.le_trans HBw.out hb.size); have K3 := Aside0.mk hb; have hc0 : w3.cell? ⟨gb, 0, none⟩ = some (.int .u8 (a.kind.toNat : Int)) := (blk_cell hbox 0).trans rfl; have hc1 : w3.cell? ⟨gb, 1, none⟩ = some (.string (mkB a.name)) := (blk_cell hbox 1).trans rfl; have hc2 : w3.cell? ⟨gb, 2, none⟩ = some (.int .i64 a.step) := (blk_cell hbox 2).trans rfl; have hcv : w3.cell? ⟨tb, 0, none⟩ = some (.slice Ao A.length co) := (blk_cell G3.out 0).trans rfl; have HF3 := Aside0.mk (show ∀ k, w3.heap.size ≤ k → k ≠ tb from fun k hk e => by have := Nat.lt_of_lt_of_le (blk_lt HG.out) hb.size; omega); have HL3 := Aside0.mk (show (A.length + 1) * 32 ≤ 140737488355328 by have := HA.out; omega); have hcvA : ∀ o, (w3.alloc o).cell? ⟨tb, 0, none⟩ = some (.slice Ao A.length co) := fun o => (blk_cell (blk_alloc G3.out o) 0).trans rfl; clear hbox hb hg))
  go_region_law (first | (refine Kd.R_append_step askK (w0 := w) (W := w3.drew) B rfl (.tmp 11) (.tmp 13) 36 55 (.agg #[.int .u8 0, .string ⟨#[]⟩, .int .i64 0]) 32 rfl Try.underlying36 infoA rfl askS h32 (.slice Ao A.length co) A a (askC a) (fun k => k ≠ tb) (fun _ => False) rfl rfl (askM _ _ _ a) (fun _ h => h.elim) HF3.out (Kd.R_drew O3.out) (below_drew1 (K3.out.mono HBw.out)) S3.out HL3.out ?_; intro v6 w6 ho6 hb6 hg6 hat6; obtain ⟨A6, c6, e6⟩ := Kd.R_slice ho6; subst e6; have G6 := Aside0.mk (blk_grown (blk_drew G3.out) hg6 (Kd.R_away O3.out (fun k hk => hk))); have O6 := Aside0.mk ho6; have B6 := Aside0.mk hb6; have K6 := Aside0.mk hg6; have hcv6 : w6.cell? ⟨tb, 0, none⟩ = some (.slice Ao A.length co) := (blk_cell G6.out 0).trans rfl; have hcv7 : w6.cell? ⟨tb, 1, none⟩ = some (.slice Aa 0 ca) := (blk_cell G6.out 1).trans rfl; have hcf6 : w6.frozen? ⟨tb, 0, none⟩ = false := blk_frozen G6.out 0; clear ho6 hb6 hg6 hat6))
  all_goals
    go_wp2
    refine bodyPost_ret (results_tmp rfl _ _ _) rfl ?_
    exact ⟨rfl, ans_end HT.out HO.out K3.out K6.out G6.out (by have := O6.out; rw [List.length_append] at this; exact this) B6.out⟩
set_option maxHeartbeats 4000000 in
set_option maxRecDepth 100000 in
theorem ans_some (T : TypeId) (hT : T ≠ 55) (w0 : World) (B tb : Nat) (L : List ByteArray) (hL0 : L.length ≠ 0) (hL : L.length ≤ 1000) (Aa : Option Addr) (ca : Nat) (A : List As) (a : As) (w : World) (h : Tl T w0 B tb L Aa ca A w) (hA : A.length ≤ 1000) (hn : a.name.length ≤ 8000) (hs : -10 ≤ a.step ∧ a.step ≤ 10) :
    Calls Try.prog 21 #[.pointer (some ⟨tb, 0, none⟩), .agg (askC a).toArray] w fun e w' => e = .returned (.string (ansB L a)) ∧ Tl T w0 B tb L Aa ca (A ++ [a]) w' ∧ Fr B (fun k => k = tb) w w' := by
  have HT := Aside0.mk h
  obtain ⟨⟨v, hg, ho⟩, hbel, hB, hBw, htb, hC⟩ := h
  obtain ⟨Ao, co, rfl⟩ := Kd.R_slice ho
  have HG := Aside0.mk hg
  have HO := Aside0.mk ho
  have HB := Aside0.mk hbel
  have HBB := Aside0.mk hB
  have HBw := Aside0.mk hBw
  have HTB := Aside0.mk htb
  have HA := Aside0.mk hA
  have HC := Aside0.mk hC
  have hu := Try.underlying55
  obtain ⟨n, hLn⟩ : ∃ n, L.length = n := ⟨_, rfl⟩
  have HLN := Aside0.mk hLn
  have HL0 := Aside0.mk hL0
  have HN := Aside0.mk hn
  have HS := Aside0.mk hs
  have HL := Aside0.mk hL
  have hn0 : ((n : Int) == 0) = false := beq_eq_false_iff_ne.2 (by omega)
  obtain ⟨K, hK⟩ : ∃ K : Int, (a.kind.toNat : Int) = K := ⟨_, rfl⟩
  obtain ⟨S, hS⟩ : ∃ S : ByteArray, mkB a.name = S := ⟨_, rfl⟩
  have HKK := Aside0.mk hK
  have HSS := Aside0.mk hS
  have HPM := Aside0.mk (show ∀ W b ok, askK.M W b ok a [.int .u8 K, .string S, .int .i64 a.step] by intro W b ok; rw [← hK, ← hS]; exact askM W b ok a)
  have HK := Aside0.mk (show 0 ≤ K ∧ K < 256 by have := a.kind.toNat_lt; omega)
  have HSZ := Aside0.mk (show S.size = a.name.length by rw [← hS, size_mkB])
  clear hLn hL0 hn hs hL hK hS
  clear hg ho hbel hB hBw htb hA hC hT
  go_enter Try.func21, Try.ntmps21
  go_wp2_with (first | ((with_reducible refine gate_dst (N := 3) rfl ?_); refine box_event ?hg (N := 3) ?hd (cs := (askC a).toArray) (t := 55) ?hr ?_; (case hd => rfl); (case hg => rfl); (case hr => first | (go_simp; done) | (go_simp; rfl)); intro gb hg w3 hbox hb; have HGB := Aside0.mk hg; have X3 := Aside0.mk hbox; have G3 := Aside0.mk (blk_below HG.out hb); have O3 := Aside0.mk (Kd.R_below HO.out hb); have B3 := Aside0.mk (HB.out.trans (hb.mono (Nat.le_trans HBB.out HBw.out))); have S3 := Aside0.mk (Nat.le_trans HBw.out hb.size); have K3 := Aside0.mk hb; have hc0 : w3.cell? ⟨gb, 0, none⟩ = some (.int .u8 K) := (blk_cell hbox 0).trans (by rw [← HKK.out]; rfl); have hc1 : w3.cell? ⟨gb, 1, none⟩ = some (.string S) := (blk_cell hbox 1).trans (by rw [← HSS.out]; rfl); have hc2 : w3.cell? ⟨gb, 2, none⟩ = some (.int .i64 a.step) := (blk_cell hbox 2).trans rfl; have hcv : w3.cell? ⟨tb, 0, none⟩ = some (.slice Ao A.length co) := (blk_cell G3.out 0).trans rfl; have HF3 := Aside0.mk (show ∀ k, w3.heap.size ≤ k → k ≠ tb from fun k hk e => by have := Nat.lt_of_lt_of_le (blk_lt HG.out) hb.size; omega); have HL3 := Aside0.mk (show (A.length + 1) * 32 ≤ 140737488355328 by have := HA.out; omega); have hcvA : ∀ o, (w3.alloc o).cell? ⟨tb, 0, none⟩ = some (.slice Ao A.length co) := fun o => (blk_cell (blk_alloc G3.out o) 0).trans rfl; clear hbox hb hg))
  go_region_law (first | (refine Kd.R_append_step askK (w0 := w) (W := w3.drew) B rfl (.tmp 11) (.tmp 13) 36 55 (.agg #[.int .u8 0, .string ⟨#[]⟩, .int .i64 0]) 32 rfl Try.underlying36 infoA rfl askS h32 (.slice Ao A.length co) A a [.int .u8 K, .string S, .int .i64 a.step] (fun k => k ≠ tb) (fun _ => False) rfl rfl (HPM.out _ _ _) (fun _ h => h.elim) HF3.out (Kd.R_drew O3.out) (below_drew1 (K3.out.mono HBw.out)) S3.out HL3.out ?_; intro v6 w6 ho6 hb6 hg6 hat6; obtain ⟨A6, c6, e6⟩ := Kd.R_slice ho6; subst e6; have G6 := Aside0.mk (blk_grown (blk_drew G3.out) hg6 (Kd.R_away O3.out (fun k hk => hk))); have O6 := Aside0.mk ho6; have B6 := Aside0.mk hb6; have K6 := Aside0.mk hg6; have hcv6 : w6.cell? ⟨tb, 0, none⟩ = some (.slice Ao A.length co) := (blk_cell G6.out 0).trans rfl; have hcv7 : w6.cell? ⟨tb, 1, none⟩ = some (.slice Aa n ca) := (blk_cell G6.out 1).trans (by rw [← HLN.out]; rfl); have X6 := blk_grown (blk_drew X3.out) hg6 (Kd.fresh' (Kd.R_lt HO.out) gb (Nat.le_of_eq HGB.out.symm)); have hne : tb ≠ gb := Nat.ne_of_lt (Nat.lt_of_lt_of_le (blk_lt HG.out) (Nat.le_of_eq HGB.out.symm)); have X7 := Aside0.mk (blk_far (p := ⟨tb, 0, none⟩) X6 hne.symm (.slice A6 (A.length + 1) c6)); have G7 := Aside0.mk (blk_set G6.out 0 (.slice A6 (A.length + 1) c6)); clear X6 hne; have hcf6 : w6.frozen? ⟨tb, 0, none⟩ = false := blk_frozen G6.out 0; clear ho6 hb6 hg6 hat6))
  all_goals
    have y0 := (blk_cell X7.out 0).trans (show _ = some (.int .u8 K) by rw [← HKK.out]; rfl)
    have y1 := (blk_cell X7.out 1).trans (show _ = some (.string S) by rw [← HSS.out]; rfl)
    have y2 := (blk_cell X7.out 2).trans (show _ = some (.int .i64 a.step) from rfl)
    have y3 := (blk_cell G7.out 1).trans (show _ = some (.slice Aa n ca) by rw [← HLN.out]; rfl)
    have h7 := ans_end HT.out HO.out K3.out K6.out G6.out (show askK.R 55 w6 B (fun k => k ≠ tb) (.slice A6 (A.length + 1) c6) (A ++ [a]) by have := O6.out; rw [List.length_append] at this; exact this) B6.out
    obtain ⟨W7, hW7⟩ : ∃ W7, w6.setCell ⟨tb, 0, none⟩ (.slice A6 (A.length + 1) c6) = W7 := ⟨_, rfl⟩
    rw [hW7] at y0 y1 y2 y3 h7 ⊢
    have H7 := Aside0.mk h7
    clear h7 hW7
    go_wp2
    go_loopg [5, 6] (a.name.length + 1) (fun kq v5 v6 w' => ∃ j : Nat, Aside0 (kq + j = a.name.length + 1 ∧ j ≤ a.name.length) ∧ v5 = .int .i64 (K + 3 * (S.size : Int) + a.step + sumB (a.name.take j)) ∧ v6 = .int .i64 (j : Int) ∧ w' = W7)
    case atStart => exact ⟨0, ⟨rfl, Nat.zero_le _⟩, by rw [ans_start HK.out HS.out (show S.size ≤ 8000 by rw [HSZ.out]; exact HN.out), List.take_zero]; simp [sumB], rfl, rfl⟩
    case round =>
      obtain ⟨j, HJ, rfl, rfl, rfl⟩ := hrel
      by_cases hj : j < a.name.length
      · have c1 : ((j : Int) < (S.size : Int)) = True := eq_true (by have := HSZ.out; omega)
        have c2 : (j < S.size) = True := eq_true (by have := HSZ.out; omega)
        obtain ⟨c, hc⟩ : ∃ c : Int, (a.name[j].toNat : Int) = c := ⟨_, rfl⟩
        have x1 : ∀ h, ((S[j]'h).toNat : Int) = c := by rw [← HSS.out, ← hc]; exact fun _ => rfl
        obtain ⟨s0, hs0⟩ : ∃ s0 : Int, sumB (a.name.take j) = s0 := ⟨_, rfl⟩
        have HNX := Aside0.mk (show sumB (a.name.take (j + 1)) = s0 + c by rw [sum_next _ _ hj, hs0, hc])
        have HCB := Aside0.mk (show 0 ≤ c ∧ c < 256 by have := a.name[j].toNat_lt; omega)
        have HSB := Aside0.mk (show 0 ≤ s0 ∧ s0 ≤ 255 * 8000 by have := sum_le (a.name.take j); rw [hs0, List.length_take] at this; have := HN.out; omega)
        have HJL := Aside0.mk hj
        rw [hs0]
        clear hj hc hs0
        go_wp2
        go_roundg (gk - 1)
        case measure => have := HJ.out; have := HJL.out; omega
        case rel =>
          refine ⟨j + 1, ⟨by have := HJ.out; have := HJL.out; omega, HJL.out⟩, ?_, ?_, rfl⟩
          · have h1 := HK.out
            have h2 := HS.out
            have h3 := HCB.out
            have h4 := HSB.out
            have h5 : S.size ≤ 8000 := by rw [HSZ.out]; exact HN.out
            rw [HNX.out, w64 (x := c) (by omega) (by omega), w64 (by omega) (by omega), Int.add_assoc]
          · have h5 := HJL.out
            have h6 := HN.out
            rw [Evl.wn (by omega)]
      · have hj2 : j = a.name.length := by have := HJ.out; omega
        have c1 : ((j : Int) < (S.size : Int)) = False := eq_false (by have := HSZ.out; omega)
        obtain ⟨s0, hs0⟩ : ∃ s0 : Int, K + 3 * (S.size : Int) + a.step + sumB (a.name.take j) = s0 := ⟨_, rfl⟩
        have HS0 := Aside0.mk (show s0 = ansN a by rw [← hs0, hj2, List.take_length, HSZ.out, ← HKK.out]; rfl)
        obtain ⟨mx, hmx⟩ : ∃ mx : Int, max 0 s0 = mx := ⟨_, rfl⟩
        obtain ⟨r, hr⟩ : ∃ r : Int, mx.tmod (n : Int) = r := ⟨_, rfl⟩
        have hn1 : (n = 0) = False := eq_false (by rw [← HLN.out]; exact HL0.out)
        have hm0 : 0 ≤ mx := by rw [← hmx]; exact Int.le_max_left _ _
        have hr0 : 0 ≤ r := by rw [← hr]; exact Int.tmod_nonneg _ hm0
        have hr1 : r < (n : Int) := by rw [← hr]; exact Int.tmod_lt_of_pos _ (by have := HL0.out; have := HLN.out; omega)
        have hAn := Aside0.mk (show rdOf ByteArray.empty L r = ansB L a by rw [ansB, if_neg HL0.out, ← HS0.out, hmx, HLN.out, hr])
        obtain ⟨ad, hAd, hcell⟩ := Kd.at_string (Kd.C_below H7.out.1.hC H7.out.1.bel) r hr0 (by rw [HLN.out]; exact hr1)
        subst hAd
        have b1 : (0 ≤ r) = True := eq_true hr0
        have b2 : (r < (n : Int)) = True := eq_true hr1
        have b3 : (r.toNat < n) = True := eq_true (by omega)
        rw [hs0]
        clear hs0 hj hj2 hm0 hr0 hr1
        go_wp2
        go_region
        all_goals
          go_wp2
          refine bodyPost_ret (results_tmp rfl _ _ _) rfl ?_
          exact ⟨congrArg (fun s => Ending.returned (Value.string s)) hAn.out, H7.out.1.drew, H7.out.2⟩
end Go.Proofs.Ytpflnhbhgcediaa.Ex4
