/- expand.Names, walked: the closure that lays names at the end of a list, walk with it, Names by recursion. -/
import Derived.Test.YtpflnhbhgcediaaDoorFPlainEa
import Derived.Test.YtpflnhbhgcediaaDoorQTex0
import Derived.Deep.RegionLaw
namespace Go.Proofs.YtpflnhbhgcediaaDoor.Names4
open Go.RowKit Go.Proofs.YtpflnhbhgcediaaDoor.QEa Go.Proofs.YtpflnhbhgcediaaDoorW.PrintWords Go.Proofs.YtpflnhbhgcediaaDoorW.PrintLast Go.Proofs.YtpflnhbhgcediaaDoorW.PrintMore Go.Proofs.YtpflnhbhgcediaaDoorN Go.Proofs.YtpflnhbhgcediaaDoor.Evl Go.Proofs.YtpflnhbhgcediaaDoor.Str Go.Proofs.YtpflnhbhgcediaaDoor.Esc4 Go.Proofs.YtpflnhbhgcediaaDoor.Ask4 Go.Proofs.YtpflnhbhgcediaaDoor.Plain4
set_option linter.unusedVariables false
set_option linter.unusedSimpArgs false
/-- What the closure leaves: the row in its cell, longer. -/
def Longer (w0 : World) (go B : Nat) (v : Value) (w : World) (xs : List ByteArray) (e : Ending) (w' : World) : Prop :=
  e = .returned (.bool true) ∧ ∃ v', w'.heap[go]? = some (.cells #[v'] 29 (0, 0)) ∧ Kd.R Kd.string 9 w' B (fun k => k ≠ go) v' xs ∧ Below B w0 w' ∧ Kept w w' (fun k => k = go ∨ some k = v.ownBlock)
set_option maxHeartbeats 4000000 in
set_option maxRecDepth 100000 in
theorem nc_name (K : Int) (hK : ¬ K = 119) (hE : (Utf8.encode K).size = 1) (nm4 : ByteArray) (st sz : Int) (x : ByteArray) (go : Nat) (v : Value) (xs : List ByteArray) (B : Nat) (w0 w : World) (hgo : w.heap[go]? = some (.cells #[v] 29 (0, 0))) (ho : Kd.R Kd.string 9 w B (fun k => k ≠ go) v xs)
    (hB : Below B w0 w) (hBw : B ≤ w.heap.size) (hBgo : B ≤ go) (hl : xs.length < 8796093022208) (hn : nm4.size < 1000000) :
    Calls Tryd.prog 43 #[.agg #[.int .u8 K, .string nm4, .int .i64 st, .int .i64 sz], .string x, .pointer (some ⟨go, 0, none⟩)] w (Longer w0 go B v w (xs ++ [(Utf8.encode K ++ ⟨#[58]⟩) ++ nm4])) := by
  obtain ⟨Ao, co, rfl⟩ := Kd.R_slice ho
  have hu := Tryd.underlying68
  have HL := Aside0.mk hl
  have c1 : (K == 119) = false := beq_eq_false_iff_ne.2 hK
  have c17 : (9223372036854775807 < (Utf8.encode K).size + 1) = False := eq_false (by omega)
  have c18 : (9223372036854775807 < (Utf8.encode K).size + 1 + nm4.size) = False := eq_false (by omega)
  have HG := Aside0.mk hgo
  have HO := Aside0.mk ho
  have HB := Aside0.mk hB
  have HBw := Aside0.mk hBw
  have HBgo := Aside0.mk hBgo
  clear hl hgo ho hB hBw hBgo hE hK
  go_enter Tryd.func43, Tryd.ntmps43
  go_wp2_with (first | ((with_reducible refine gate_dst (N := 3) rfl ?_); refine box_event ?hg (N := 3) ?hd (cs := #[.int .u8 K, .string nm4, .int .i64 st, .int .i64 sz]) (t := 68) ?hr ?_; (case hd => rfl); (case hg => rfl); (case hr => first | (go_simp; done) | (go_simp; rfl)); intro gb hg w3 hbox hb; have G3 := Aside0.mk (blk_below HG.out hb); have O3 := Aside0.mk (Kd.R_below HO.out hb); have B3 := Aside0.mk (HB.out.trans (hb.mono HBw.out)); have S3 := Aside0.mk (Nat.le_trans HBw.out hb.size); have K3 := Aside0.mk (Kept.of_below hb (fun k => k = go ∨ some k = (Value.slice Ao xs.length co).ownBlock)); have LG3 := Aside0.mk (Nat.lt_of_lt_of_le (blk_lt HG.out) hb.size); have hc0 : w3.cell? ⟨gb, 0, none⟩ = some (.int .u8 K) := (blk_cell hbox 0).trans rfl; have hc1 : w3.cell? ⟨gb, 1, none⟩ = some (.string nm4) := (blk_cell hbox 1).trans rfl; have hcv : w3.cell? ⟨go, 0, none⟩ = some (.slice Ao xs.length co) := (blk_cell G3.out 0).trans rfl; clear hbox hb hg) | ((with_reducible refine gate_builtin (b := .append) (xs := #[.tmp 13, .tmp 21]) rfl ?_); (try (refine gate_guard (by rfl) ?_; dsimp only)); at_builtin; refine Kd.R_append Kd.string (w0 := w0) B rfl (.tmp 13) (.tmp 21) 29 9 (.string ⟨#[]⟩) 16 rfl Tryd.underlying29 QTe.info9 rfl (by decide) (by omega) (.slice Ao xs.length co) xs (((Utf8.encode K) ++ (⟨#[58]⟩ : ByteArray)) ++ nm4) [.string (((Utf8.encode K) ++ (⟨#[58]⟩ : ByteArray)) ++ nm4)] (fun k => k ≠ go) (fun _ => False) rfl rfl ?aP (fun _ hk => hk.elim) ?aF ?aO ?aB ?aS ?aL ?_; (case aP => exact rfl); (case aB => exact B3.out); (case aF => exact fun k hk => by have := LG3.out; omega); (case aO => exact O3.out); (case aS => exact S3.out); (case aL => have := HL.out; omega); intro v4 w4 ho4 hb4 hg4 hat4; obtain ⟨A4, c4, e4⟩ := Kd.R_slice ho4; subst e4; have K4 := Aside0.mk hg4; have G4 := Aside0.mk (blk_grown G3.out hg4 (Kd.R_away O3.out (fun k hk => hk))); have O4 := Aside0.mk ho4; have B4 := Aside0.mk hb4; have hcv4 : w4.cell? ⟨go, 0, none⟩ = some (.slice Ao xs.length co) := (blk_cell G4.out 0).trans rfl; have hcf4 : w4.frozen? ⟨go, 0, none⟩ = false := blk_frozen G4.out 0; clear ho4 hb4 hg4 hat4))
  go_ret
  have O5 := O4.out
  rw [show (xs ++ [(Utf8.encode K ++ (⟨#[58]⟩ : ByteArray)) ++ nm4]).length = xs.length + 1 by simp] at O5
  refine ⟨rfl, _, blk_put G4.out 0 _ rfl, Kd.R_far (p := ⟨go, 0, none⟩) O5 (fun k hk => hk) _, B4.out.setCell HBgo.out _, ?_, fun i hi hn => ?_⟩
  · have h1 := K3.out.1
    have h2 := K4.out.size
    show w.heap.size ≤ (w4.setCell ⟨go, 0, none⟩ _).heap.size
    simp [World.setCell]
    omega
  · have hne : i ≠ go := fun h => hn (.inl h)
    have hno : some i ≠ (Value.slice Ao xs.length co).ownBlock := fun h => hn (.inr h)
    rw [Below.heap_setCell w4 ⟨go, 0, none⟩ _ i hne, K4.out.block i (Nat.lt_of_lt_of_le hi K3.out.1) hno]
    exact K3.out.2 i hi hn
/-- What Names leaves. -/
def Named (ys : List ByteArray) (w : World) (e : Ending) (w' : World) : Prop := ∃ v0_ : Value, e = .returned (v0_) ∧ Kd.R Kd.string 9 w' w.heap.size (fun _ => True) v0_ ys ∧ Below w.heap.size w w'
set_option maxHeartbeats 4000000 in
set_option maxRecDepth 100000 in
theorem nc_wid (T : ByteArray) (ys : List ByteArray) (HN : ∀ W, Calls Tryd.prog 25 #[.string T] W (Named ys W)) (z : ByteArray) (st sz : Int) (go : Nat) (v : Value) (xs : List ByteArray) (B : Nat) (w0 w : World) (hgo : w.heap[go]? = some (.cells #[v] 29 (0, 0))) (ho : Kd.R Kd.string 9 w B (fun k => k ≠ go) v xs)
    (hB : Below B w0 w) (hBw : B ≤ w.heap.size) (hBgo : B ≤ go) (hl : xs.length + ys.length < 8796093022208) :
    Calls Tryd.prog 43 #[.agg #[.int .u8 119, .string z, .int .i64 st, .int .i64 sz], .string T, .pointer (some ⟨go, 0, none⟩)] w (Longer w0 go B v w (xs ++ ys)) := by
  obtain ⟨Ao, co, rfl⟩ := Kd.R_slice ho
  have hu := Tryd.underlying68
  have HL := Aside0.mk hl
  have HN := Aside0.mk HN
  have HG := Aside0.mk hgo
  have HO := Aside0.mk ho
  have HB := Aside0.mk hB
  have HBw := Aside0.mk hBw
  have HBgo := Aside0.mk hBgo
  clear hl hgo ho hB hBw hBgo
  go_enter Tryd.func43, Tryd.ntmps43
  go_wp2_with (first | ((with_reducible refine gate_dst (N := 3) rfl ?_); refine box_event ?hg (N := 3) ?hd (cs := #[.int .u8 119, .string z, .int .i64 st, .int .i64 sz]) (t := 68) ?hr ?_; (case hd => rfl); (case hg => rfl); (case hr => first | (go_simp; done) | (go_simp; rfl)); intro gb hg w3 hbox hb; have G3 := Aside0.mk (blk_below HG.out hb); have O3 := Aside0.mk (Kd.R_below HO.out hb); have B3 := Aside0.mk (HB.out.trans (hb.mono HBw.out)); have S3 := Aside0.mk (Nat.le_trans HBw.out hb.size); have K3 := Aside0.mk (Kept.of_below hb (fun k => k = go ∨ some k = (Value.slice Ao xs.length co).ownBlock)); have hc0 : w3.cell? ⟨gb, 0, none⟩ = some (.int .u8 119) := (blk_cell hbox 0).trans rfl; have hc1 : w3.cell? ⟨gb, 1, none⟩ = some (.string z) := (blk_cell hbox 1).trans rfl; have hcv : w3.cell? ⟨go, 0, none⟩ = some (.slice Ao xs.length co) := (blk_cell G3.out 0).trans rfl; clear hbox hb hg))
  go_region_law (first | (refine Kd.R_append_rows_step Kd.string (w0 := w0) B rfl (.tmp 9) (.tmp 11) 29 9 (.string ⟨#[]⟩) 16 rfl Tryd.underlying29 QTe.info9 rfl (by decide) (by omega) (.slice Ao xs.length co) xs ys _ _ _ (fun k => k ≠ go ∧ some k ≠ (.slice A5 ys.length c5 : Value).ownBlock) (fun _ => False) rfl rfl O5.out R5.out (fun _ _ h => h) (fun _ h => h.elim) F5.out B5.out S5.out (by have := HL.out; omega) ?_; intro v6 w6 ho6 hb6 hg6 hat6; obtain ⟨A6, c6, e6⟩ := Kd.R_slice ho6; subst e6; have G6 := Aside0.mk (blk_grown G5.out hg6 (Kd.R_away O5.out (fun k hk => hk.1))); have O6 := Aside0.mk (Kd.R_mono ho6 (fun _ hk => hk.1)); have B6 := Aside0.mk hb6; have K6 := Aside0.mk hg6; have hcv6 : w6.cell? ⟨go, 0, none⟩ = some (.slice Ao xs.length co) := (blk_cell G6.out 0).trans rfl; have hcf6 : w6.frozen? ⟨go, 0, none⟩ = false := blk_frozen G6.out 0; clear ho6 hb6 hg6 hat6) | (go_simp; go_at_call 25; refine (HN.out _).mono ?_; rintro e w5 ⟨v5, rfl, ho5, hb5⟩; obtain ⟨A5, c5, e5⟩ := Kd.R_slice ho5; subst e5; have G5 := Aside0.mk (blk_below (blk_drew G3.out) hb5); have O5 := Aside0.mk (Kd.R_elder' (Kd.R_drew O3.out) (Kd.R_base ho5) hb5); have R5 := Aside0.mk (Kd.R_reads' ho5).2.2; have F5 := Aside0.mk (fun k (hk : w5.heap.size ≤ k) => (⟨fun e => by have := blk_lt G5.out; omega, Kd.fresh' (Kd.R_lt ho5) k hk⟩ : k ≠ go ∧ some k ≠ (.slice A5 ys.length c5 : Value).ownBlock)); have B5 := Aside0.mk ((below_drew1 B3.out).trans (hb5.mono S3.out)); have S5 := Aside0.mk (Nat.le_trans S3.out hb5.size); have K5 := Aside0.mk hb5; have hcv5 : w5.cell? ⟨go, 0, none⟩ = some (.slice Ao xs.length co) := (blk_cell G5.out 0).trans rfl; clear ho5 hb5))
  all_goals
    go_wp2
    go_ret
    have O7 := O6.out
    rw [List.length_append] at O7
    refine ⟨rfl, _, blk_put G6.out 0 _ rfl, Kd.R_far (p := ⟨go, 0, none⟩) O7 (fun k hk => hk) _, B6.out.setCell HBgo.out _, ?_, fun i hi hn => ?_⟩
    · have h1 := K3.out.1
      have h2 : w3.heap.size ≤ w5.heap.size := K5.out.size
      have h3 := K6.out.size
      show w.heap.size ≤ (w6.setCell ⟨go, 0, none⟩ _).heap.size
      simp [World.setCell]
      omega
    · have hne : i ≠ go := fun h => hn (.inl h)
      have hno : some i ≠ (Value.slice Ao xs.length co).ownBlock := fun h => hn (.inr h)
      have h2 : w3.heap.size ≤ w5.heap.size := K5.out.size
      have h1 := K3.out.1
      rw [Below.heap_setCell w6 ⟨go, 0, none⟩ _ i hne, K6.out.block i (by omega) hno, K5.out.block i (show i < w3.heap.size by omega)]
      exact K3.out.2 i hi hn
def nmTail (f : List UInt8 → List (List UInt8)) : List UInt8 → List (List UInt8)
  | [] => []
  | c :: t => if c = 34 then [] else if inN c = true then f (c :: t) else f t
/-- The names that are asked. -/
def nms : Nat → List UInt8 → List (List UInt8)
  | 0, _ => []
  | n + 1, l => match cutB 92 l with
    | none => []
    | some p => match esc (92 :: p.2) with
      | some e => (e.kind :: 58 :: e.name) :: nms n ((92 :: p.2).drop e.size)
      | none => match wid (92 :: p.2) with
        | some z => nms n z.1 ++ nms n ((92 :: p.2).drop z.2)
        | none => nmTail (nms n) p.2
theorem nms_none {k : Nat} {r : List UInt8} (h : cutB 92 r = none) : nms (k + 1) r = [] := by rw [nms, h]
theorem nms_esc {k : Nat} {r p q : List UInt8} {e : Es} (h : cutB 92 r = some (p, q)) (he : esc (92 :: q) = some e) : nms (k + 1) r = (e.kind :: 58 :: e.name) :: nms k ((92 :: q).drop e.size) := by rw [nms, h]; simp only [he]
theorem nms_wid {k : Nat} {r p q : List UInt8} {z : List UInt8 × Nat} (h : cutB 92 r = some (p, q)) (he : esc (92 :: q) = none) (hz : wid (92 :: q) = some z) : nms (k + 1) r = nms k z.1 ++ nms k ((92 :: q).drop z.2) := by rw [nms, h]; simp only [he, hz]
theorem nms_tail {k : Nat} {r p q : List UInt8} (h : cutB 92 r = some (p, q)) (he : esc (92 :: q) = none) (hz : wid (92 :: q) = none) : nms (k + 1) r = nmTail (nms k) q := by rw [nms, h]; simp only [he, hz]
theorem nm_le (r : List UInt8) : (nm r).2 ≤ r.length ∧ (nm r).1.length ≤ r.length := by
  match r with
  | [] => simp [nm]
  | c :: r =>
    by_cases h40 : c = 40
    · subst h40
      match r with
      | [] => simp [nm, nm40]
      | [a] => simp [nm, nm40]
      | a :: b :: t =>
        rw [nm_two]
        split <;> simp
    · by_cases h91 : c = 91
      · subst h91
        rw [nm_brk]
        cases hc : cutB 93 r with
        | none => simp
        | some p =>
          have h1 := congrArg List.length (cut_eq (p := p.1) (q := p.2) hc).1
          rw [List.length_append, List.length_cons] at h1
          simp only
          split
          · simp only [List.length_cons]; omega
          · simp
      · rw [nm_one h40 h91]
        split
        · simp
        · split <;> simp
theorem mkE_ok {k : UInt8} {st : Int} {base : Nat} {p : List UInt8 × Nat} {e : Es} (h : mkE k st base p = some e) : e.kind = k ∧ e.name = p.1 ∧ e.size = base + p.2 ∧ p.2 ≠ 0 := by
  unfold mkE at h
  split at h
  · cases h
  · obtain rfl := Option.some.inj h
    exact ⟨rfl, rfl, rfl, by assumption⟩
theorem esc_ok {s : List UInt8} {e : Es} (h : esc s = some e) : 3 ≤ e.size ∧ e.size ≤ s.length ∧ e.name.length ≤ s.length ∧ (e.kind = 110 ∨ e.kind = 42 ∨ e.kind = 36) := by
  match s, h with
  | b :: k :: c :: r, h =>
    rw [esc] at h
    split at h
    · have n1 := nm_le r
      have n2 := nm_le (c :: r)
      simp only [List.length_cons] at n2 ⊢
      unfold esc3 at h
      split at h
      · rename_i hk
        split at h
        · obtain ⟨a1, a2, a3, a4⟩ := mkE_ok h
          rw [a1, a2, a3]
          exact ⟨by omega, by omega, by omega, Or.inl hk⟩
        · split at h
          · obtain ⟨a1, a2, a3, a4⟩ := mkE_ok h
            rw [a1, a2, a3]
            exact ⟨by omega, by omega, by omega, Or.inl hk⟩
          · obtain ⟨a1, a2, a3, a4⟩ := mkE_ok h
            rw [a1, a2, a3]
            exact ⟨by omega, by omega, by omega, Or.inl hk⟩
      · split at h
        · rename_i hk
          obtain ⟨a1, a2, a3, a4⟩ := mkE_ok h
          rw [a1, a2, a3]
          exact ⟨by omega, by omega, by omega, Or.inr hk⟩
        · cases h
    · cases h
theorem wid_ok {s : List UInt8} {z : List UInt8 × Nat} (h : wid s = some z) : z.2 = z.1.length + 4 ∧ z.2 ≤ s.length := by
  match s, h with
  | b :: k :: c :: r, h =>
    rw [wid] at h
    split at h
    · cases hc : cutB c r with
      | none => rw [hc] at h; cases h
      | some p =>
        rw [hc] at h
        obtain rfl := Option.some.inj h
        have h1 := congrArg List.length (cut_eq (p := p.1) (q := p.2) hc).1
        rw [List.length_append, List.length_cons] at h1
        refine ⟨rfl, ?_⟩
        show p.1.length + 4 ≤ _
        simp only [List.length_cons]
        omega
    · cases h
theorem nms_len : ∀ (n : Nat) (l : List UInt8), (nms n l).length ≤ l.length := by
  intro n
  induction n with
  | zero => intro l; simp [nms]
  | succ n ih =>
    intro l
    cases hc : cutB 92 l with
    | none => rw [nms_none hc]; simp
    | some p =>
      obtain ⟨p, q⟩ := p
      have h1 := congrArg List.length (cut_eq hc).1
      rw [List.length_append, List.length_cons] at h1
      cases he : esc (92 :: q) with
      | some e =>
        have h2 := (esc_ok he).1
        have h3 := ih ((92 :: q).drop e.size)
        rw [List.length_drop, List.length_cons] at h3
        rw [nms_esc hc he, List.length_cons]
        omega
      | none =>
        cases hz : wid (92 :: q) with
        | some z =>
          have h2 := wid_ok hz
          rw [List.length_cons] at h2
          have h3 := ih ((92 :: q).drop z.2)
          have h4 := ih z.1
          rw [List.length_drop, List.length_cons] at h3
          rw [nms_wid hc he hz, List.length_append]
          omega
        | none =>
          rw [nms_tail hc he hz]
          cases q with
          | nil => simp [nmTail]
          | cons c t =>
            have h3 := ih (c :: t)
            have h4 := ih t
            rw [List.length_cons] at h1 h3
            rw [nmTail]
            split
            · simp
            · split <;> omega
theorem asks_no (s : List UInt8) (hs : s.length < 1000000000) (h : esc s = none) (w : World) : Calls Tryd.prog 33 #[.string (mkB s)] w fun e w' => ∃ (v0 : Int) (v1 : ByteArray) (v2 v3 : Int), e = .returned (.tuple #[.agg #[.int .u8 v0, .string v1, .int .i64 v2, .int .i64 v3], .bool false]) ∧ Below w.heap.size w w' := by
  refine (asks_esc s hs w).mono ?_
  rintro e w' ⟨⟨v0, v1, v2, v3, v4⟩, hv, rfl, hb⟩
  have h4 : v4 = false := by
    have := hv.1
    rw [h] at this
    exact this
  subst h4
  exact ⟨v0, v1, v2, v3, rfl, hb⟩
theorem asks_yes (s : List UInt8) (hs : s.length < 1000000000) (x : Es) (h : esc s = some x) (w : World) : Calls Tryd.prog 33 #[.string (mkB s)] w fun e w' => e = .returned (.tuple #[.agg #[.int .u8 (x.kind.toNat : Int), .string (mkB x.name), .int .i64 x.step, .int .i64 (x.size : Int)], .bool true]) ∧ Below w.heap.size w w' := by
  refine (asks_esc s hs w).mono ?_
  rintro e w' ⟨v, hv, rfl, hb⟩
  obtain rfl := hv.2 x h
  exact ⟨rfl, hb⟩
def nmB (n : Nat) (l : List UInt8) : List ByteArray := (nms n l).map mkB
/-- What walk leaves. -/
def Walked (w0 : World) (go B : Nat) (xs : List ByteArray) (e : Ending) (w' : World) : Prop :=
  ∃ b : Bool, e = .returned (.bool b) ∧ ∃ v', w'.heap[go]? = some (.cells #[v'] 29 (0, 0)) ∧ Kd.R Kd.string 9 w' B (fun k => k ≠ go) v' xs ∧ Below B w0 w'
theorem enc_ok {k : UInt8} (h : k = 110 ∨ k = 42 ∨ k = 36) : Utf8.encode (k.toNat : Int) = mkB [k] ∧ ¬ (k.toNat : Int) = 119 := by
  rcases h with rfl | rfl | rfl <;> exact ⟨by kernel_rfl, by decide⟩
theorem mkB_name (k : UInt8) (l : List UInt8) : (mkB [k] ++ (⟨#[58]⟩ : ByteArray)) ++ mkB l = mkB (k :: 58 :: l) := by
  rw [show (⟨#[58]⟩ : ByteArray) = mkB [58] from rfl, append_mkB, append_mkB]
  rfl
set_option maxHeartbeats 8000000 in
set_option maxRecDepth 100000 in
theorem walk_names (n : Nat) (l : List UInt8) (hn : l.length < n) (hl : l.length < 1000000) (IH : ∀ m, m < n → ∀ t : List UInt8, t.length < m → t.length < 1000000 → ∀ W, Calls Tryd.prog 25 #[.string (mkB t)] W (Named (nmB m t) W))
    (go : Nat) (v : Value) (B : Nat) (w0 w : World) (hgo : w.heap[go]? = some (.cells #[v] 29 (0, 0))) (ho : Kd.R Kd.string 9 w B (fun k => k ≠ go) v [])
    (hB : Below B w0 w) (hBw : B ≤ w.heap.size) (hBgo : B ≤ go) :
    Calls Tryd.prog 39 #[.string (mkB l), .func (.func 43) #[] #[.pointer (some ⟨go, 0, none⟩)]] w (Walked w0 go B (nmB n l)) := by
  have HG := Aside0.mk hgo
  have HO := Aside0.mk ho
  have HB := Aside0.mk hB
  have HBw := Aside0.mk hBw
  have HBgo := Aside0.mk hBgo
  have HL := Aside0.mk hl
  have HN := Aside0.mk hn
  have IH := Aside0.mk IH
  have hu58 := Tryd.underlying68
  clear hgo ho hB hBw hBgo hl hn
  go_enter Tryd.func39, Tryd.ntmps39
  go_wp2
  go_loopg [0] n (fun kq v0 w' => ∃ (r : List UInt8) (xs : List ByteArray) (v : Value), Aside0 (xs ++ nmB kq r = nmB n l ∧ r.length + 1 ≤ kq ∧ r.length ≤ l.length ∧ kq ≤ n ∧ xs.length + r.length ≤ l.length) ∧ v0 = .string (mkB r) ∧ Aside0 (w'.heap[go]? = some (.cells #[v] 29 (0, 0))) ∧ Aside0 (Kd.R Kd.string 9 w' B (fun k => k ≠ go) v xs) ∧ Aside0 (Below B w0 w') ∧ Aside0 (B ≤ w'.heap.size))
  case atStart => exact ⟨l, [], v, ⟨rfl, by have := HN.out; omega, Nat.le_refl _, Nat.le_refl _, by simp⟩, rfl, HG, HO, HB, HBw⟩
  case round =>
    clear HG HO HB HBw
    obtain ⟨r, xs, v, H1, rfl, HG, HO, HB, HBw⟩ := hrel
    cases gk with
    | zero => exact absurd H1.out.2.1 (by omega)
    | succ k1 =>
      obtain ⟨s, hs⟩ : ∃ s, mkB r = s := ⟨_, rfl⟩
      cases hc : cutB 92 r with
      | none =>
        have HW := Aside0.mk (show xs = nmB n l by have h1 := H1.out.1; rw [nmB, nms_none hc, List.map_nil, List.append_nil] at h1; exact h1)
        have HI := Aside0.mk (show Lib.indexByte s.data.toList (92 : Int).toNat.toUInt8 = -1 by rw [← hs, data_mkB]; exact ix_no 92 r (cut_none hc))
        rw [hs]
        clear hc hs
        by_cases he : s.toList.isEmpty = true
        · go_wp2
          refine bodyPost_ret (results_tmp rfl _ _ _) rfl ?_
          exact ⟨_, rfl, _, HG.out, by rw [← HW.out]; exact HO.out, HB.out⟩
        · have he2 : s.toList.isEmpty = false := Bool.eq_false_iff.2 he
          clear he
          go_wp2_with (first | (go_at_call 31; refine (ibc _ _ (-1) HI.out _).mono ?_; rintro e w2 ⟨rfl, rfl⟩))
          refine bodyPost_ret (results_tmp rfl _ _ _) rfl ?_
          exact ⟨_, rfl, _, HG.out, by rw [← HW.out]; exact HO.out, HB.out⟩
      | some p =>
        obtain ⟨p, q⟩ := p
        obtain ⟨hr, hp⟩ := cut_eq hc
        have hlen : r.length = p.length + (q.length + 1) := by
          have := congrArg List.length hr
          rw [List.length_append, List.length_cons] at this
          exact this
        obtain ⟨S2, hS2⟩ : ∃ s, mkB (92 :: q) = s := ⟨_, rfl⟩
        obtain ⟨i, hi⟩ : ∃ i, p.length = i := ⟨_, rfl⟩
        have hq : (92 :: q : List UInt8).length < 1000000000 := by have := HL.out; have := H1.out.2.2; rw [List.length_cons]; omega
        have HI := Aside0.mk (show Lib.indexByte s.data.toList (92 : Int).toNat.toUInt8 = (i : Int) by rw [← hs, data_mkB, hr, ← hi]; exact ix_at 92 p q hp)
        have HZ := Aside0.mk (show i + S2.size = s.size by rw [← hs, ← hS2, size_mkB, size_mkB, hlen, List.length_cons, hi])
        have HS3 := Aside0.mk (show S2.size = q.length + 1 by rw [← hS2, size_mkB, List.length_cons])
        have he2 : s.toList.isEmpty = false := by rw [← hs, toList_mkB, hr]; cases p <;> rfl
        have g2 : s.extract i s.size = S2 := by rw [← hs, ← hS2, extract_mkB, size_mkB, List.take_length, hr, ← hi, List.drop_left]
        have t1 : decide ((i : Int) < 0) = false := decide_eq_false (by omega)
        have t2 : ((i : Int) < 0) = False := eq_false (by omega)
        have t3 : ((i : Int) ≤ (s.size : Int)) = True := eq_true (by have := HZ.out; omega)
        have t4 : (i ≤ s.size) = True := eq_true (by have := HZ.out; omega)
        have HQ := Aside0.mk (show q.length + 1 ≤ k1 ∧ q.length + 1 ≤ l.length ∧ k1 + 1 ≤ n ∧ xs.length + q.length + 1 ≤ l.length by have := H1.out; omega)
        have HS2 := Aside0.mk hS2
        cases hes : esc (92 :: q) with
        | some x =>
          have hx := esc_ok hes
          rw [List.length_cons] at hx
          have HASK := Aside0.mk (fun W => asks_yes (92 :: q) hq x hes W)
          have HW := Aside0.mk (show (xs ++ [mkB (x.kind :: 58 :: x.name)]) ++ nmB k1 ((92 :: q).drop x.size) = nmB n l by rw [← H1.out.1, nmB, nmB, nms_esc hc hes, List.map_cons, List.append_assoc]; rfl)
          rw [hS2] at HASK
          obtain ⟨kd, hkd⟩ : ∃ kd : Int, (x.kind.toNat : Int) = kd := ⟨_, rfl⟩
          obtain ⟨N, hN⟩ : ∃ N, x.size = N := ⟨_, rfl⟩
          obtain ⟨M, hM⟩ : ∃ M, mkB x.name = M := ⟨_, rfl⟩
          have hen := enc_ok hx.2.2.2
          have HK := Aside0.mk (show Utf8.encode kd = mkB [x.kind] ∧ ¬ kd = 119 by rw [← hkd]; exact hen)
          have HM := Aside0.mk (show (Utf8.encode kd ++ (⟨#[58]⟩ : ByteArray)) ++ M = mkB (x.kind :: 58 :: x.name) by rw [HK.out.1, ← hM]; exact mkB_name _ _)
          have HML := Aside0.mk (show M.size < 1000000 by rw [← hM, size_mkB]; have := HL.out; have := HQ.out; omega)
          rw [hkd, hN, hM] at HASK
          have g3 : S2.extract N S2.size = mkB ((92 :: q).drop N) := by rw [← hS2, extract_mkB, size_mkB, List.take_length]
          have t5 : (0 ≤ (N : Int)) = True := eq_true (by omega)
          have t6 : ((N : Int) ≤ (S2.size : Int)) = True := eq_true (by have := HS3.out; omega)
          have t7 : (N ≤ S2.size) = True := eq_true (by have := HS3.out; omega)
          have HX := Aside0.mk (show 3 ≤ N ∧ N ≤ q.length + 1 by omega)
          rw [hN] at HW
          rw [hs]
          clear hS2 hc hr hp hlen hq hs hes hx hkd hN hM hen
          go_wp2_with (first | (go_at_call 31; refine (ibc _ _ i HI.out _).mono ?_; rintro e w2 ⟨rfl, rfl⟩) | (go_at_call 33; refine (HASK.out _).mono ?_; rintro e w4 ⟨rfl, hb4⟩; have g4 := blk_below HG.out hb4; have o4 := Kd.R_below HO.out hb4; have HB4 := Aside0.mk (HB.out.trans (hb4.mono HBw.out)); have S4 := Aside0.mk (Nat.le_trans HBw.out hb4.size); have G4 := Aside0.mk g4; have O4 := Aside0.mk o4; clear hb4 g4 o4) | (go_at_call 43; refine (nc_name kd HK.out.2 (by rw [HK.out.1, size_mkB]; rfl) M x.step N _ go v xs B w0 _ ((Lib.alloc_old _ _ _ (blk_lt G4.out)).trans G4.out) (Kd.R_alloc O4.out _) (HB4.out.trans ((below_alloc (Below.refl w4.heap.size w4) _).mono S4.out)) (Nat.le_trans S4.out (below_alloc (Below.refl w4.heap.size w4) _).size) HBgo.out (by have := HL.out; have := HQ.out; omega) HML.out).mono ?_; rintro e w5 ⟨rfl, v5, hg5, ho5, hb5, hk5⟩; have hbk := blk_kept (heap_alloc_new w4 (.cells #[.int .u8 kd, .string M, .int .i64 x.step, .int .i64 N] 68)) hk5 (fun h => h.elim (fun e => by have := blk_lt G4.out; omega) (fun e => by have := Kd.R_lt O4.out _ e.symm; omega)); have hc3 : w5.cell? ⟨w4.heap.size, 3, none⟩ = some (.int .i64 N) := (blk_cell hbk 3).trans rfl; have G5 := Aside0.mk hg5; have O5 := Aside0.mk ho5; have B5 := Aside0.mk hb5; have S5 := Aside0.mk (Nat.le_trans (Nat.le_trans S4.out (below_alloc (Below.refl w4.heap.size w4) (.cells #[.int .u8 kd, .string M, .int .i64 x.step, .int .i64 N] 68)).size) hk5.1); clear hg5 ho5 hb5 hk5 hbk))
          go_roundg k1
          case measure => omega
          case rel =>
            refine ⟨(92 :: q).drop N, xs ++ [(Utf8.encode kd ++ (⟨#[58]⟩ : ByteArray)) ++ M], v5, ⟨by rw [HM.out]; exact HW.out, ?_, ?_, ?_, ?_⟩, rfl, G5, O5, B5, S5⟩
            · have h1 := HX.out; have h2 := HQ.out; rw [List.length_drop, List.length_cons]; omega
            · have h1 := HX.out; have h2 := HQ.out; rw [List.length_drop, List.length_cons]; omega
            · have h2 := HQ.out; omega
            · have h1 := HX.out; have h2 := HQ.out; rw [List.length_append, List.length_drop, List.length_cons, List.length_cons, List.length_nil]; omega
        | none =>
          have HASK := Aside0.mk (fun W => asks_no (92 :: q) hq hes W)
          have HWID := Aside0.mk (width_f (92 :: q) hq 1)
          rw [hS2] at HASK HWID
          cases hwd : wid (92 :: q) with
          | some z =>
            have hz := wid_ok hwd
            rw [List.length_cons] at hz
            obtain ⟨N, hN⟩ : ∃ N, z.2 = N := ⟨_, rfl⟩
            have HW := Aside0.mk (show (xs ++ nmB k1 z.1) ++ nmB k1 ((92 :: q).drop N) = nmB n l by rw [← H1.out.1, nmB, nmB, nmB, nms_wid hc hes hwd, List.map_append, List.append_assoc, ← hN])
            obtain ⟨M, hM⟩ : ∃ M, mkB z.1 = M := ⟨_, rfl⟩
            have HV := Aside0.mk (show expand_width.f 2 S2 = some (M, (N : Int)) by rw [HWID.out, hwd, ← hM, ← hN]; rfl)
            have HNM := Aside0.mk (show ∀ W, Calls Tryd.prog 25 #[.string M] W (Named (nmB k1 z.1) W) by rw [← hM]; exact IH.out k1 (by have := HQ.out; omega) z.1 (by have := HQ.out; omega) (by have := HL.out; have := HQ.out; omega))
            have HNL := Aside0.mk (show (nmB k1 z.1).length ≤ z.1.length by rw [nmB, List.length_map]; exact nms_len _ _)
            have HX := Aside0.mk (show N = z.1.length + 4 ∧ N ≤ q.length + 1 by omega)
            have g3 : S2.extract N S2.size = mkB ((92 :: q).drop N) := by rw [← hS2, extract_mkB, size_mkB, List.take_length]
            have t5 : (0 ≤ (N : Int)) = True := eq_true (by omega)
            have t6 : ((N : Int) ≤ (S2.size : Int)) = True := eq_true (by have := HS3.out; omega)
            have t7 : (N ≤ S2.size) = True := eq_true (by have := HS3.out; omega)
            have y1 : decide ((0 : Int) < (N : Int)) = true := decide_eq_true (by omega)
            have y2 : ((0 : Int) < (N : Int)) = True := eq_true (by omega)
            have y3 : (0 < N) = True := eq_true (by omega)
            rw [hs]
            clear hS2 hc hr hp hlen hq hs hes hwd hz hN hM HWID
            go_wp2_with (first | (go_at_call 31; refine (ibc _ _ i HI.out _).mono ?_; rintro e w2 ⟨rfl, rfl⟩) | (go_at_call 33; refine (HASK.out _).mono ?_; rintro e w4 ⟨v0, v1, v2, v3, rfl, hb4⟩; have g4 := blk_below HG.out hb4; have o4 := Kd.R_below HO.out hb4; have HB4 := Aside0.mk (HB.out.trans (hb4.mono HBw.out)); have S4 := Aside0.mk (Nat.le_trans HBw.out hb4.size); have G4 := Aside0.mk g4; have O4 := Aside0.mk o4; clear hb4 g4 o4; have HG := G4; have HO := O4; have HB := HB4; have HBw := S4; clear G4 O4 HB4 S4) | (go_at_call 36; refine (expand_width.calls 2 _ _ _ _ HV.out).mono ?_; rintro e w6 ⟨rfl, hd6⟩; have hb6 := hd6.below; have g6 := blk_below ((Lib.alloc_old _ (.cells #[.int .u8 v0, .string v1, .int .i64 v2, .int .i64 v3] 68) _ (blk_lt HG.out)).trans HG.out) hb6; have HB6 := Aside0.mk (HB.out.trans (((below_alloc (Below.refl w4.heap.size w4) (.cells #[.int .u8 v0, .string v1, .int .i64 v2, .int .i64 v3] 68)).mono HBw.out).trans (hb6.mono (Nat.le_trans HBw.out (below_alloc (Below.refl w4.heap.size w4) _).size)))); have S6 := Aside0.mk (Nat.le_trans (Nat.le_trans HBw.out (below_alloc (Below.refl w4.heap.size w4) (.cells #[.int .u8 v0, .string v1, .int .i64 v2, .int .i64 v3] 68)).size) hb6.size); have O6 := Aside0.mk (Kd.R_below (Kd.R_alloc HO.out _) hb6); have G6 := Aside0.mk g6; clear hb6 hd6 g6) | (go_at_call 43; refine (nc_wid M (nmB k1 z.1) HNM.out _ _ _ go v xs B w0 _ G6.out O6.out HB6.out S6.out HBgo.out (by have := HNL.out; have := HX.out; have := HL.out; have := HQ.out; omega)).mono ?_; rintro e w5 ⟨rfl, v5, hg5, ho5, hb5, hk5⟩; have G5 := Aside0.mk hg5; have O5 := Aside0.mk ho5; have B5 := Aside0.mk hb5; have S5 := Aside0.mk (Nat.le_trans S6.out hk5.1); clear hg5 ho5 hb5 hk5))
            go_roundg k1
            case measure => omega
            case rel =>
              refine ⟨(92 :: q).drop N, xs ++ nmB k1 z.1, v5, ⟨HW.out, ?_, ?_, ?_, ?_⟩, rfl, G5, O5, B5, S5⟩
              · have h1 := HX.out; have h2 := HQ.out; rw [List.length_drop, List.length_cons]; omega
              · have h1 := HX.out; have h2 := HQ.out; rw [List.length_drop, List.length_cons]; omega
              · have h2 := HQ.out; omega
              · have h1 := HX.out; have h2 := HQ.out; have h3 := HNL.out; rw [List.length_append, List.length_drop, List.length_cons]; omega
          | none =>
            have HV := Aside0.mk (show expand_width.f 2 S2 = some ((⟨#[]⟩ : ByteArray), (0 : Int)) by rw [HWID.out, hwd]; rfl)
            have HR := Aside0.mk (show xs ++ (nmTail (nms k1) q).map mkB = nmB n l by rw [← H1.out.1, nmB, nms_tail hc hes hwd])
            rw [hs]
            clear hc hr hp hlen hq hs hes hwd HWID H1
            cases q with
            | nil =>
              have HR2 := Aside0.mk (show xs = nmB n l by rw [← HR.out]; simp [nmTail])
              have s1 : ((S2.size : Int) == 1) = true := beq_iff_eq.2 (by rw [← HS2.out, size_mkB]; rfl)
              go_wp2_with (first | (go_at_call 31; refine (ibc _ _ i HI.out _).mono ?_; rintro e w2 ⟨rfl, rfl⟩) | (go_at_call 33; refine (HASK.out _).mono ?_; rintro e w4 ⟨v0, v1, v2, v3, rfl, hb4⟩; have g4 := blk_below HG.out hb4; have o4 := Kd.R_below HO.out hb4; have HB4 := Aside0.mk (HB.out.trans (hb4.mono HBw.out)); have S4 := Aside0.mk (Nat.le_trans HBw.out hb4.size); have G4 := Aside0.mk g4; have O4 := Aside0.mk o4; clear hb4 g4 o4; have HG := G4; have HO := O4; have HB := HB4; have HBw := S4; clear G4 O4 HB4 S4) | (go_at_call 36; refine (expand_width.calls 2 _ _ _ _ HV.out).mono ?_; rintro e w6 ⟨rfl, hd6⟩; have hb6 := hd6.below; have g6 := blk_below ((Lib.alloc_old _ (.cells #[.int .u8 v0, .string v1, .int .i64 v2, .int .i64 v3] 68) _ (blk_lt HG.out)).trans HG.out) hb6; have HB6 := Aside0.mk (HB.out.trans (((below_alloc (Below.refl w4.heap.size w4) (.cells #[.int .u8 v0, .string v1, .int .i64 v2, .int .i64 v3] 68)).mono HBw.out).trans (hb6.mono (Nat.le_trans HBw.out (below_alloc (Below.refl w4.heap.size w4) _).size)))); have S6 := Aside0.mk (Nat.le_trans (Nat.le_trans HBw.out (below_alloc (Below.refl w4.heap.size w4) (.cells #[.int .u8 v0, .string v1, .int .i64 v2, .int .i64 v3] 68)).size) hb6.size); have O6 := Aside0.mk (Kd.R_below (Kd.R_alloc HO.out _) hb6); have G6 := Aside0.mk g6; clear hb6 hd6 g6))
              refine bodyPost_ret (results_tmp rfl _ _ _) rfl ?_
              exact ⟨_, rfl, _, G6.out, by rw [← HR2.out]; exact O6.out, HB6.out⟩
            | cons c t =>
              have hsz : S2.size = t.length + 2 := by rw [← HS2.out, size_mkB]; rfl
              have s1 : ((S2.size : Int) == 1) = false := beq_eq_false_iff_ne.2 (by omega)
              have s2 : (1 < (S2.size : Int)) = True := eq_true (by omega)
              have s3 : (1 < S2.size) = True := eq_true (by omega)
              have s4 : (1 ≤ (S2.size : Int)) = True := eq_true (by omega)
              have s5 : (1 ≤ S2.size) = True := eq_true (by omega)
              have s6 : (2 ≤ (S2.size : Int)) = True := eq_true (by omega)
              have s7 : (2 ≤ S2.size) = True := eq_true (by omega)
              obtain ⟨C, hC⟩ : ∃ C : Int, (c.toNat : Int) = C := ⟨_, rfl⟩
              have x1 : ∀ h, ((S2[1]'h).toNat : Int) = C := by rw [← HS2.out, ← hC]; exact fun _ => rfl
              have g3 : S2.extract 1 S2.size = mkB (c :: t) := by rw [← HS2.out, extract_mkB, size_mkB, List.take_length]; rfl
              have g4 : S2.extract 2 S2.size = mkB t := by rw [← HS2.out, extract_mkB, size_mkB, List.take_length]; rfl
              have hI4 : Lib.indexByte (⟨#[110, 42, 36, 119]⟩ : ByteArray).data.toList C.toNat.toUInt8 = Lib.indexByte [110, 42, 36, 119] c := by rw [← hC, Int.toNat_natCast, show (c.toNat.toUInt8) = c from UInt8.ofNat_toNat]
              obtain ⟨I, hI⟩ : ∃ I, Lib.indexByte [110, 42, 36, 119] c = I := ⟨_, rfl⟩
              have HI4 := Aside0.mk (hI4.trans hI)
              have hin := ib4 c
              rw [hI] at hin
              by_cases h34 : c = 34
              · have f1 : ((C == 34) : Bool) = true := beq_iff_eq.2 (by rw [← hC, h34]; rfl)
                have HR2 := Aside0.mk (show xs = nmB n l by rw [← HR.out, nmTail, if_pos h34]; simp)
                clear hsz hC hI4 hI hin h34 hS2
                go_wp2_with (first | (go_at_call 31; refine (ibc _ _ i HI.out _).mono ?_; rintro e w2 ⟨rfl, rfl⟩) | (go_at_call 33; refine (HASK.out _).mono ?_; rintro e w4 ⟨v0, v1, v2, v3, rfl, hb4⟩; have g4 := blk_below HG.out hb4; have o4 := Kd.R_below HO.out hb4; have HB4 := Aside0.mk (HB.out.trans (hb4.mono HBw.out)); have S4 := Aside0.mk (Nat.le_trans HBw.out hb4.size); have G4 := Aside0.mk g4; have O4 := Aside0.mk o4; clear hb4 g4 o4; have HG := G4; have HO := O4; have HB := HB4; have HBw := S4; clear G4 O4 HB4 S4) | (go_at_call 36; refine (expand_width.calls 2 _ _ _ _ HV.out).mono ?_; rintro e w6 ⟨rfl, hd6⟩; have hb6 := hd6.below; have g6 := blk_below ((Lib.alloc_old _ (.cells #[.int .u8 v0, .string v1, .int .i64 v2, .int .i64 v3] 68) _ (blk_lt HG.out)).trans HG.out) hb6; have HB6 := Aside0.mk (HB.out.trans (((below_alloc (Below.refl w4.heap.size w4) (.cells #[.int .u8 v0, .string v1, .int .i64 v2, .int .i64 v3] 68)).mono HBw.out).trans (hb6.mono (Nat.le_trans HBw.out (below_alloc (Below.refl w4.heap.size w4) _).size)))); have S6 := Aside0.mk (Nat.le_trans (Nat.le_trans HBw.out (below_alloc (Below.refl w4.heap.size w4) (.cells #[.int .u8 v0, .string v1, .int .i64 v2, .int .i64 v3] 68)).size) hb6.size); have O6 := Aside0.mk (Kd.R_below (Kd.R_alloc HO.out _) hb6); have G6 := Aside0.mk g6; clear hb6 hd6 g6))
                refine bodyPost_ret (results_tmp rfl _ _ _) rfl ?_
                exact ⟨_, rfl, _, G6.out, by rw [← HR2.out]; exact O6.out, HB6.out⟩
              · have f1 : ((C == 34) : Bool) = false := beq_eq_false_iff_ne.2 (by rw [← hC]; intro e; exact h34 (UInt8.toNat_inj.1 (by show c.toNat = 34; omega)))
                cases hn4 : inN c with
                | true =>
                  have f2 : decide (0 ≤ I) = true := hin.trans hn4
                  have f3 : (0 ≤ I) = True := eq_true (of_decide_eq_true f2)
                  have HR2 := Aside0.mk (show xs ++ nmB k1 (c :: t) = nmB n l by rw [← HR.out, nmTail, if_neg h34, hn4, if_pos rfl]; rfl)
                  clear hsz hC hI4 hI hin h34 hn4 hS2
                  go_wp2_with (first | (go_at_call 31; refine (ibc _ _ I HI4.out _).mono ?_; rintro e w7 ⟨rfl, rfl⟩) | (go_at_call 31; refine (ibc _ _ i HI.out _).mono ?_; rintro e w2 ⟨rfl, rfl⟩) | (go_at_call 33; refine (HASK.out _).mono ?_; rintro e w4 ⟨v0, v1, v2, v3, rfl, hb4⟩; have g4 := blk_below HG.out hb4; have o4 := Kd.R_below HO.out hb4; have HB4 := Aside0.mk (HB.out.trans (hb4.mono HBw.out)); have S4 := Aside0.mk (Nat.le_trans HBw.out hb4.size); have G4 := Aside0.mk g4; have O4 := Aside0.mk o4; clear hb4 g4 o4; have HG := G4; have HO := O4; have HB := HB4; have HBw := S4; clear G4 O4 HB4 S4) | (go_at_call 36; refine (expand_width.calls 2 _ _ _ _ HV.out).mono ?_; rintro e w6 ⟨rfl, hd6⟩; have hb6 := hd6.below; have g6 := blk_below ((Lib.alloc_old _ (.cells #[.int .u8 v0, .string v1, .int .i64 v2, .int .i64 v3] 68) _ (blk_lt HG.out)).trans HG.out) hb6; have HB6 := Aside0.mk (HB.out.trans (((below_alloc (Below.refl w4.heap.size w4) (.cells #[.int .u8 v0, .string v1, .int .i64 v2, .int .i64 v3] 68)).mono HBw.out).trans (hb6.mono (Nat.le_trans HBw.out (below_alloc (Below.refl w4.heap.size w4) _).size)))); have S6 := Aside0.mk (Nat.le_trans (Nat.le_trans HBw.out (below_alloc (Below.refl w4.heap.size w4) (.cells #[.int .u8 v0, .string v1, .int .i64 v2, .int .i64 v3] 68)).size) hb6.size); have O6 := Aside0.mk (Kd.R_below (Kd.R_alloc HO.out _) hb6); have G6 := Aside0.mk g6; clear hb6 hd6 g6))
                  go_roundg k1
                  case measure => omega
                  case rel => exact ⟨c :: t, xs, v, ⟨HR2.out, HQ.out.1, by have := HQ.out.2; omega, by have := HQ.out; omega, by have := HQ.out; omega⟩, rfl, G6, O6, HB6, S6⟩
                | false =>
                  have f2 : decide (0 ≤ I) = false := hin.trans hn4
                  have f3 : (0 ≤ I) = False := eq_false (of_decide_eq_false f2)
                  have HR2 := Aside0.mk (show xs ++ nmB k1 t = nmB n l by rw [← HR.out, nmTail, if_neg h34, hn4, if_neg (by simp)]; rfl)
                  clear hsz hC hI4 hI hin h34 hn4 hS2
                  go_wp2_with (first | (go_at_call 31; refine (ibc _ _ I HI4.out _).mono ?_; rintro e w7 ⟨rfl, rfl⟩) | (go_at_call 31; refine (ibc _ _ i HI.out _).mono ?_; rintro e w2 ⟨rfl, rfl⟩) | (go_at_call 33; refine (HASK.out _).mono ?_; rintro e w4 ⟨v0, v1, v2, v3, rfl, hb4⟩; have g4 := blk_below HG.out hb4; have o4 := Kd.R_below HO.out hb4; have HB4 := Aside0.mk (HB.out.trans (hb4.mono HBw.out)); have S4 := Aside0.mk (Nat.le_trans HBw.out hb4.size); have G4 := Aside0.mk g4; have O4 := Aside0.mk o4; clear hb4 g4 o4; have HG := G4; have HO := O4; have HB := HB4; have HBw := S4; clear G4 O4 HB4 S4) | (go_at_call 36; refine (expand_width.calls 2 _ _ _ _ HV.out).mono ?_; rintro e w6 ⟨rfl, hd6⟩; have hb6 := hd6.below; have g6 := blk_below ((Lib.alloc_old _ (.cells #[.int .u8 v0, .string v1, .int .i64 v2, .int .i64 v3] 68) _ (blk_lt HG.out)).trans HG.out) hb6; have HB6 := Aside0.mk (HB.out.trans (((below_alloc (Below.refl w4.heap.size w4) (.cells #[.int .u8 v0, .string v1, .int .i64 v2, .int .i64 v3] 68)).mono HBw.out).trans (hb6.mono (Nat.le_trans HBw.out (below_alloc (Below.refl w4.heap.size w4) _).size)))); have S6 := Aside0.mk (Nat.le_trans (Nat.le_trans HBw.out (below_alloc (Below.refl w4.heap.size w4) (.cells #[.int .u8 v0, .string v1, .int .i64 v2, .int .i64 v3] 68)).size) hb6.size); have O6 := Aside0.mk (Kd.R_below (Kd.R_alloc HO.out _) hb6); have G6 := Aside0.mk g6; clear hb6 hd6 g6))
                  go_roundg k1
                  case measure => omega
                  case rel =>
                    refine ⟨t, xs, v, ⟨HR2.out, ?_, ?_, ?_, ?_⟩, rfl, G6, O6, HB6, S6⟩ <;> (have := HQ.out; rw [List.length_cons] at this; omega)
set_option maxHeartbeats 4000000 in
set_option maxRecDepth 100000 in
theorem names_calls (n : Nat) : ∀ l : List UInt8, l.length < n → l.length < 1000000 → ∀ w, Calls Tryd.prog 25 #[.string (mkB l)] w (Named (nmB n l) w) := by
  induction n using Nat.strongRecOn with
  | _ n ih =>
  intro l hn hl w
  have hmf : ∀ (fn : Fn) (first cap : Array Value) (w : World), (Instr.makeFunc fn first cap).run Tryd.prog w = .ok (.func fn first cap) w := fun _ _ _ _ => rfl
  have HW := Aside0.mk (fun W (hg : W.heap[w.heap.size]? = some (.cells #[.slice none 0 0] 29 (0, 0))) (hb : Below w.heap.size w W) (hz : w.heap.size ≤ W.heap.size) => walk_names n l hn hl ih w.heap.size (.slice none 0 0) w.heap.size w W hg (Kd.R_nil _ _ _ _ _) hb hz (Nat.le_refl _))
  clear hn hl ih
  go_enter Tryd.func25, Tryd.ntmps25
  go_wp2_with (first | (go_at_call 39; refine (HW.out _ (heap_alloc_new _ _) (below_alloc (Below.refl _ _) _) (below_alloc (Below.refl w.heap.size w) _).size).mono ?_; rintro e w2 ⟨b, rfl, v2, hg2, ho2, hb2⟩; obtain ⟨A2, c2, e2⟩ := Kd.R_slice ho2; subst e2; have O2 := Aside0.mk ho2; have B2 := Aside0.mk hb2; have hc2 : w2.cell? ⟨w.heap.size, 0, none⟩ = some (.slice A2 (nmB n l).length c2) := (blk_cell hg2 0).trans rfl; clear hg2 ho2 hb2))
  refine bodyPost_ret (results_tmp rfl _ _ _) rfl ?_
  exact ⟨_, rfl, Kd.R_mono O2.out (fun _ _ => trivial), B2.out⟩
end Go.Proofs.YtpflnhbhgcediaaDoor.Names4
