/- expand.Plain, walked: nothing asks, and no comment begins. -/
import Derived.Test.YtpflnhbhgcediaaFAskEa
import Derived.Test.YtpflnhbhgcediaaFSaneCEx
namespace Go.Proofs.Ytpflnhbhgcediaa.Plain4
open Go.RowKit Go.Proofs.Ytpflnhbhgcediaa.QEa Go.Proofs.YtpflnhbhgcediaaW.PrintWords Go.Proofs.YtpflnhbhgcediaaW.PrintLast Go.Proofs.YtpflnhbhgcediaaW.PrintMore Go.Proofs.YtpflnhbhgcediaaN Go.Proofs.Ytpflnhbhgcediaa.Evl Go.Proofs.Ytpflnhbhgcediaa.Str Go.Proofs.Ytpflnhbhgcediaa.Esc4 Go.Proofs.Ytpflnhbhgcediaa.Ask4
set_option linter.unusedVariables false
set_option linter.unusedSimpArgs false
def inN (c : UInt8) : Bool := c == 110 || c == 42 || c == 36 || c == 119
def wpTail (f : List UInt8 → Bool × Bool) : List UInt8 → Bool × Bool
  | [] => (false, false)
  | c :: t => if c = 34 then (false, true) else if inN c = true then f (c :: t) else f t
/-- Does anything ask? Does a comment begin? -/
def wp : Nat → List UInt8 → Bool × Bool
  | 0, _ => (false, false)
  | n + 1, l => match cutB 92 l with
    | none => (false, false)
    | some p => if ((esc (92 :: p.2)).isSome || (wid (92 :: p.2)).isSome) = true then (true, false) else wpTail (wp n) p.2
theorem wp_none {k : Nat} {r : List UInt8} (h : cutB 92 r = none) : wp (k + 1) r = (false, false) := by rw [wp, h]
theorem wp_some {k : Nat} {r p q : List UInt8} (h : cutB 92 r = some (p, q)) : wp (k + 1) r = if ((esc (92 :: q)).isSome || (wid (92 :: q)).isSome) = true then (true, false) else wpTail (wp k) q := by rw [wp, h]
theorem ib4 (c : UInt8) : decide (0 ≤ Lib.indexByte [110, 42, 36, 119] c) = inN c := by
  unfold inN
  by_cases h1 : c = 110
  · subst h1; decide
  · by_cases h2 : c = 42
    · subst h2; decide
    · by_cases h3 : c = 36
      · subst h3; decide
      · by_cases h4 : c = 119
        · subst h4; decide
        · have e1 : ((110 : UInt8) == c) = false := beq_eq_false_iff_ne.2 (fun e => h1 e.symm)
          have e2 : ((42 : UInt8) == c) = false := beq_eq_false_iff_ne.2 (fun e => h2 e.symm)
          have e3 : ((36 : UInt8) == c) = false := beq_eq_false_iff_ne.2 (fun e => h3 e.symm)
          have e4 : ((119 : UInt8) == c) = false := beq_eq_false_iff_ne.2 (fun e => h4 e.symm)
          simp [Lib.indexByte, e1, e2, e3, e4, h1, h2, h3, h4]
theorem ibc (s : ByteArray) (c : Int) (i : Int) (h : Lib.indexByte s.data.toList c.toNat.toUInt8 = i) (w : World) : Calls Try.prog 26 #[.string s, .int .u8 c] w fun e w' => e = .returned (.int .i64 i) ∧ w' = w := by
  refine (Any.strings_IndexByte Lay.l137 s c w).mono ?_
  rintro e w' ⟨rfl, rfl⟩
  refine ⟨?_, rfl⟩
  rw [← h]
set_option maxHeartbeats 2000000 in
set_option maxRecDepth 100000 in
theorem pc_calls (v0 : Int) (v1 : ByteArray) (v2 v3 : Int) (x : ByteArray) (a : Nat) (u : Bool) (W : World) (ha : W.heap[a]? = some (.cells #[.bool u] 4 (0, 0))) :
    Calls Try.prog 23 #[.agg #[.int .u8 v0, .string v1, .int .i64 v2, .int .i64 v3], .string x, .pointer (some ⟨a, 0, none⟩)] W fun e w' => e = .returned (.bool false) ∧ w' = (W.alloc (.cells #[.int .u8 v0, .string v1, .int .i64 v2, .int .i64 v3] 58)).setCell ⟨a, 0, none⟩ (.bool true) := by
  have h2 : (W.alloc (.cells #[.int .u8 v0, .string v1, .int .i64 v2, .int .i64 v3] 58)).heap[a]? = some (.cells #[.bool u] 4 (0, 0)) := (Lib.alloc_old _ _ _ (Array.getElem?_eq_some_iff.1 ha).1).trans ha
  have c0 := Lib.cell_of_heap ha 0
  have z0 := Lib.frozen_of_heap ha 0
  have c1 := Lib.cell_of_heap h2 0
  have z1 := Lib.frozen_of_heap h2 0
  clear ha h2
  go_enter Try.func23, Try.ntmps23
  go_wp2
  refine bodyPost_ret (results_tmp rfl _ _ _) rfl ?_
  exact ⟨rfl, rfl⟩
theorem wid_pos {s : List UInt8} {p : List UInt8 × Nat} (h : wid s = some p) : 4 ≤ p.2 := by
  unfold wid at h
  split at h
  · split at h
    · split at h
      · obtain rfl := Option.some.inj h
        show 4 ≤ _ + 4
        omega
      · cases h
    · cases h
  · cases h
/-- What walk leaves: the mark set, or nothing of old turned. -/
def Left (w : World) (a : Nat) (r : Bool × Bool) (e : Ending) (w' : World) : Prop := e = .returned (.bool r.2) ∧ ∃ W, Below w.heap.size w W ∧ w' = if r.1 = true then W.setCell ⟨a, 0, none⟩ (.bool true) else W
set_option maxHeartbeats 8000000 in
set_option maxRecDepth 100000 in
theorem walk_plain (l : List UInt8) (hl : l.length < 1000000) (a : Nat) (w : World) (ha : w.heap[a]? = some (.cells #[.bool false] 4 (0, 0))) :
    Calls Try.prog 22 #[.string (mkB l), .func (.func 23) #[] #[.pointer (some ⟨a, 0, none⟩)]] w (Left w a (wp (l.length + 1) l)) := by
  have HA := Aside0.mk ha
  have HL := Aside0.mk hl
  have hu58 := Try.underlying58
  clear ha hl
  go_enter Try.func22, Try.ntmps22
  go_wp2
  go_loopg [0] (l.length + 1) (fun kq v0 w' => ∃ (r : List UInt8), Aside0 (wp kq r = wp (l.length + 1) l ∧ r.length + 1 ≤ kq ∧ r.length ≤ l.length) ∧ v0 = .string (mkB r) ∧ Aside0 (Below w.heap.size w w'))
  case atStart => exact ⟨l, ⟨rfl, Nat.le_refl _, Nat.le_refl _⟩, rfl, ⟨Below.refl _ _⟩⟩
  case round =>
    obtain ⟨r, H1, rfl, HB⟩ := hrel
    have HC := Aside0.mk (blk_below HA.out HB.out)
    cases gk with
    | zero => exact absurd H1.out.2.1 (by omega)
    | succ k1 =>
      obtain ⟨s, hs⟩ : ∃ s, mkB r = s := ⟨_, rfl⟩
      cases hc : cutB 92 r with
      | none =>
        have hw := wp_none (k := k1) hc
        have HW := Aside0.mk (H1.out.1.symm.trans hw)
        have HI := Aside0.mk (show Lib.indexByte s.data.toList (92 : Int).toNat.toUInt8 = -1 by rw [← hs, data_mkB]; exact ix_no 92 r (cut_none hc))
        rw [hs]
        clear hc hw hs
        by_cases he : s.toList.isEmpty = true
        · go_wp2
          refine bodyPost_ret (results_tmp rfl _ _ _) rfl ?_
          exact ⟨by rw [HW.out]; rfl, _, HB.out, by rw [HW.out]; rfl⟩
        · have he2 : s.toList.isEmpty = false := Bool.eq_false_iff.2 he
          clear he
          go_wp2_with (first | (go_at_call 26; refine (ibc _ _ (-1) HI.out _).mono ?_; rintro e w2 ⟨rfl, rfl⟩))
          refine bodyPost_ret (results_tmp rfl _ _ _) rfl ?_
          exact ⟨by rw [HW.out]; rfl, _, HB.out, by rw [HW.out]; rfl⟩
      | some p =>
        obtain ⟨p, q⟩ := p
        obtain ⟨hr, hp⟩ := cut_eq hc
        have hlen : r.length = p.length + (q.length + 1) := by
          have := congrArg List.length hr
          rw [List.length_append, List.length_cons] at this
          exact this
        have hw := wp_some (k := k1) hc
        obtain ⟨S2, hS2⟩ : ∃ s, mkB (92 :: q) = s := ⟨_, rfl⟩
        obtain ⟨n, hn⟩ : ∃ n, p.length = n := ⟨_, rfl⟩
        have hq : (92 :: q : List UInt8).length < 1000000000 := by have := HL.out; have := H1.out.2.2; rw [List.length_cons]; omega
        have HI := Aside0.mk (show Lib.indexByte s.data.toList (92 : Int).toNat.toUInt8 = (n : Int) by rw [← hs, data_mkB, hr, ← hn]; exact ix_at 92 p q hp)
        have HZ := Aside0.mk (show n + S2.size = s.size by rw [← hs, ← hS2, size_mkB, size_mkB, hlen, List.length_cons, hn])
        have he2 : s.toList.isEmpty = false := by rw [← hs, toList_mkB, hr]; cases p <;> rfl
        have g2 : s.extract n s.size = S2 := by rw [← hs, ← hS2, extract_mkB, size_mkB, List.take_length, hr, ← hn, List.drop_left]
        have t1 : decide ((n : Int) < 0) = false := decide_eq_false (by omega)
        have t2 : ((n : Int) < 0) = False := eq_false (by omega)
        have t3 : ((n : Int) ≤ (s.size : Int)) = True := eq_true (by have := HZ.out; omega)
        have t4 : (n ≤ s.size) = True := eq_true (by have := HZ.out; omega)
        have HASK := Aside0.mk (fun W => asks_esc (92 :: q) hq W)
        have HWID := Aside0.mk (width_f (92 :: q) hq 1)
        have HQ := Aside0.mk (show q.length + 1 ≤ k1 ∧ q.length + 1 ≤ l.length by have := H1.out; omega)
        have HW := Aside0.mk (H1.out.1.symm.trans hw)
        rw [hS2] at HASK HWID
        have HS2 := Aside0.mk hS2
        rw [hs]
        clear hS2 hc hr hp hlen hw hq hs H1
        go_wp2_with (first | (go_at_call 26; refine (ibc _ _ n HI.out _).mono ?_; rintro e w2 ⟨rfl, rfl⟩))
        go_wp2_with (first | (go_at_call 28; refine (HASK.out _).mono ?_; rintro e w4 ⟨⟨v0, v1, v2, v3, v4⟩, hsay, rfl, hb4⟩; have HSAY := Aside0.mk hsay; have HB4 := Aside0.mk (below_then HB.out HB.out.size hb4); clear hsay hb4; cases v4))
        · have hes : (esc (92 :: q)).isSome = false := HSAY.out.1.symm
          have HW2 := Aside0.mk (show wp (l.length + 1) l = if (wid (92 :: q)).isSome = true then (true, false) else wpTail (wp k1) q by rw [HW.out, hes, Bool.false_or])
          clear hes HW
          cases hwd : wid (92 :: q) with
          | some z =>
            have HR := Aside0.mk (show wp (l.length + 1) l = (true, false) by rw [HW2.out, hwd]; rfl)
            obtain ⟨Z, hZ⟩ : ∃ Z : Int, (z.2 : Int) = Z := ⟨_, rfl⟩
            have HV := Aside0.mk (show expand_width.f 2 S2 = some (mkB z.1, Z) by rw [HWID.out, hwd, ← hZ]; rfl)
            have hz := wid_pos hwd
            have y1 : decide ((0 : Int) < Z) = true := decide_eq_true (by omega)
            have y2 : ((0 : Int) < Z) = True := eq_true (by omega)
            clear hwd hz hZ HW2 HWID
            go_wp2_with (first | (go_at_call 31; refine (expand_width.calls 2 _ _ _ _ HV.out).mono ?_; rintro e w6 ⟨rfl, hd6⟩; have HB6 := Aside0.mk (below_then (below_alloc HB4.out (.cells #[.int .u8 v0, .string v1, .int .i64 v2, .int .i64 v3] 58)) (Nat.le_trans HB4.out.size (below_alloc (Below.refl w4.heap.size w4) (.cells #[.int .u8 v0, .string v1, .int .i64 v2, .int .i64 v3] 58)).size) hd6.below); clear hd6) | (go_at_call 23; refine (pc_calls _ _ _ _ _ a false _ (blk_below HA.out HB6.out)).mono ?_; rintro e w5 ⟨rfl, rfl⟩))
            refine bodyPost_ret (results_tmp rfl _ _ _) rfl ?_
            exact ⟨by rw [HR.out]; rfl, _, below_alloc HB6.out _, by rw [HR.out]; rfl⟩
          | none =>
            have HR := Aside0.mk (show wp (l.length + 1) l = wpTail (wp k1) q by rw [HW2.out, hwd]; rfl)
            have HV := Aside0.mk (show expand_width.f 2 S2 = some ((⟨#[]⟩ : ByteArray), (0 : Int)) by rw [HWID.out, hwd]; rfl)
            clear hwd HW2 HWID
            cases q with
            | nil =>
              have s1 : ((S2.size : Int) == 1) = true := beq_iff_eq.2 (by rw [← HS2.out, size_mkB]; rfl)
              go_wp2_with (first | (go_at_call 31; refine (expand_width.calls 2 _ _ _ _ HV.out).mono ?_; rintro e w6 ⟨rfl, hd6⟩; have HB6 := Aside0.mk (below_then (below_alloc HB4.out (.cells #[.int .u8 v0, .string v1, .int .i64 v2, .int .i64 v3] 58)) (Nat.le_trans HB4.out.size (below_alloc (Below.refl w4.heap.size w4) (.cells #[.int .u8 v0, .string v1, .int .i64 v2, .int .i64 v3] 58)).size) hd6.below); clear hd6))
              refine bodyPost_ret (results_tmp rfl _ _ _) rfl ?_
              exact ⟨by rw [HR.out]; rfl, _, HB6.out, by rw [HR.out]; rfl⟩
            | cons c t =>
              have hsz : S2.size = t.length + 2 := by rw [← HS2.out, size_mkB]; rfl
              have s1 : ((S2.size : Int) == 1) = false := beq_eq_false_iff_ne.2 (by omega)
              have s2 : (1 < (S2.size : Int)) = True := eq_true (by omega)
              have s3 : (1 < S2.size) = True := eq_true (by omega)
              have s4 : (1 ≤ (S2.size : Int)) = True := eq_true (by omega)
              have s5 : (1 ≤ S2.size) = True := eq_true (by omega)
              have s6 : (2 ≤ (S2.size : Int)) = True := eq_true (by omega)
              have s7 : (2 ≤ S2.size) = True := eq_true (by omega)
              obtain ⟨C, hC⟩ : ∃ C : Int, (c.toNat : Int) = C := ⟨_, rfl⟩
              have x1 : ∀ h, ((S2[1]'h).toNat : Int) = C := by rw [← HS2.out, ← hC]; exact fun _ => rfl
              have g3 : S2.extract 1 S2.size = mkB (c :: t) := by rw [← HS2.out, extract_mkB, size_mkB, List.take_length]; rfl
              have g4 : S2.extract 2 S2.size = mkB t := by rw [← HS2.out, extract_mkB, size_mkB, List.take_length]; rfl
              have hI4 : Lib.indexByte (⟨#[110, 42, 36, 119]⟩ : ByteArray).data.toList C.toNat.toUInt8 = Lib.indexByte [110, 42, 36, 119] c := by rw [← hC, Int.toNat_natCast, show (c.toNat.toUInt8) = c from UInt8.ofNat_toNat]
              obtain ⟨I, hI⟩ : ∃ I, Lib.indexByte [110, 42, 36, 119] c = I := ⟨_, rfl⟩
              have HI4 := Aside0.mk (hI4.trans hI)
              have hin := ib4 c
              rw [hI] at hin
              by_cases h34 : c = 34
              · have f1 : ((C == 34) : Bool) = true := beq_iff_eq.2 (by rw [← hC, h34]; rfl)
                have HR2 := Aside0.mk (show wp (l.length + 1) l = (false, true) by rw [HR.out, wpTail, if_pos h34])
                clear hsz hC hI4 hI hin h34
                go_wp2_with (first | (go_at_call 31; refine (expand_width.calls 2 _ _ _ _ HV.out).mono ?_; rintro e w6 ⟨rfl, hd6⟩; have HB6 := Aside0.mk (below_then (below_alloc HB4.out (.cells #[.int .u8 v0, .string v1, .int .i64 v2, .int .i64 v3] 58)) (Nat.le_trans HB4.out.size (below_alloc (Below.refl w4.heap.size w4) (.cells #[.int .u8 v0, .string v1, .int .i64 v2, .int .i64 v3] 58)).size) hd6.below); clear hd6))
                refine bodyPost_ret (results_tmp rfl _ _ _) rfl ?_
                exact ⟨by rw [HR2.out]; rfl, _, HB6.out, by rw [HR2.out]; rfl⟩
              · have f1 : ((C == 34) : Bool) = false := beq_eq_false_iff_ne.2 (by rw [← hC]; intro e; exact h34 (UInt8.toNat_inj.1 (by show c.toNat = 34; omega)))
                cases hn4 : inN c with
                | true =>
                  have f2 : decide (0 ≤ I) = true := hin.trans hn4
                  have f3 : (0 ≤ I) = True := eq_true (of_decide_eq_true f2)
                  have HR2 := Aside0.mk (show wp k1 (c :: t) = wp (l.length + 1) l by rw [HR.out, wpTail, if_neg h34, hn4, if_pos rfl])
                  clear hsz hC hI4 hI hin h34 hn4
                  go_wp2_with (first | (go_at_call 26; refine (ibc _ _ I HI4.out _).mono ?_; rintro e w2 ⟨rfl, rfl⟩) | (go_at_call 31; refine (expand_width.calls 2 _ _ _ _ HV.out).mono ?_; rintro e w6 ⟨rfl, hd6⟩; have HB6 := Aside0.mk (below_then (below_alloc HB4.out (.cells #[.int .u8 v0, .string v1, .int .i64 v2, .int .i64 v3] 58)) (Nat.le_trans HB4.out.size (below_alloc (Below.refl w4.heap.size w4) (.cells #[.int .u8 v0, .string v1, .int .i64 v2, .int .i64 v3] 58)).size) hd6.below); clear hd6))
                  go_roundg k1
                  case measure => omega
                  case rel => exact ⟨c :: t, ⟨HR2.out, HQ.out.1, by have := HQ.out.2; omega⟩, rfl, HB6⟩
                | false =>
                  have f2 : decide (0 ≤ I) = false := hin.trans hn4
                  have f3 : (0 ≤ I) = False := eq_false (of_decide_eq_false f2)
                  have HR2 := Aside0.mk (show wp k1 t = wp (l.length + 1) l by rw [HR.out, wpTail, if_neg h34, hn4, if_neg (by simp)])
                  clear hsz hC hI4 hI hin h34 hn4
                  go_wp2_with (first | (go_at_call 26; refine (ibc _ _ I HI4.out _).mono ?_; rintro e w2 ⟨rfl, rfl⟩) | (go_at_call 31; refine (expand_width.calls 2 _ _ _ _ HV.out).mono ?_; rintro e w6 ⟨rfl, hd6⟩; have HB6 := Aside0.mk (below_then (below_alloc HB4.out (.cells #[.int .u8 v0, .string v1, .int .i64 v2, .int .i64 v3] 58)) (Nat.le_trans HB4.out.size (below_alloc (Below.refl w4.heap.size w4) (.cells #[.int .u8 v0, .string v1, .int .i64 v2, .int .i64 v3] 58)).size) hd6.below); clear hd6))
                  go_roundg k1
                  case measure => omega
                  case rel => exact ⟨t, ⟨HR2.out, by have := HQ.out.1; rw [List.length_cons] at this; omega, by have := HQ.out.2; rw [List.length_cons] at this; omega⟩, rfl, HB6⟩
        · have hes : (esc (92 :: q)).isSome = true := HSAY.out.1.symm
          have HR := Aside0.mk (show wp (l.length + 1) l = (true, false) by rw [HW.out, hes]; rfl)
          clear hes
          go_wp2_with (first | (go_at_call 23; refine (pc_calls v0 v1 v2 v3 _ a false _ ((Lib.alloc_old _ _ _ (blk_lt (blk_below HA.out HB4.out))).trans (blk_below HA.out HB4.out))).mono ?_; rintro e w5 ⟨rfl, rfl⟩))
          refine bodyPost_ret (results_tmp rfl _ _ _) rfl ?_
          exact ⟨by rw [HR.out]; rfl, _, below_alloc (below_alloc HB4.out _) _, by rw [HR.out]; rfl⟩
theorem left_cell {w W w2 : World} {t : Nat} {u : Bool} (hW : Below (w.alloc (.cells #[.bool false] t)).heap.size (w.alloc (.cells #[.bool false] t)) W) (h : w2 = if u = true then W.setCell ⟨w.heap.size, 0, none⟩ (.bool true) else W) : w2.cell? ⟨w.heap.size, 0, none⟩ = some (.bool u) := by
  have hc := Lib.cell_of_heap (blk_below (heap_alloc_new w (.cells #[.bool false] t)) hW) 0
  cases u with
  | false => rw [h]; exact hc
  | true => rw [h]; exact World.cell?_setCell_same' _ _ _ (by rw [hc]; rfl)
theorem left_below {w W w2 : World} {t : Nat} {u : Bool} (hW : Below (w.alloc (.cells #[.bool false] t)).heap.size (w.alloc (.cells #[.bool false] t)) W) (h : w2 = if u = true then W.setCell ⟨w.heap.size, 0, none⟩ (.bool true) else W) : Below w.heap.size w w2 := by
  have hb : Below w.heap.size w W := below_then (below_alloc (Below.refl _ _) _) (below_alloc (Below.refl w.heap.size w) (.cells #[.bool false] t)).size hW
  cases u with
  | false => rw [h]; exact hb
  | true => rw [h]; exact below_set hb (Nat.le_refl _)
/-- Is a text plain? -/
def plainB (l : List UInt8) : Bool := !(wp (l.length + 1) l).1 && !(wp (l.length + 1) l).2
set_option maxHeartbeats 4000000 in
set_option maxRecDepth 100000 in
theorem plain_calls (l : List UInt8) (hl : l.length < 1000000) (w : World) : Calls Try.prog 14 #[.string (mkB l)] w fun e w' => e = .returned (.bool (plainB l)) ∧ Below w.heap.size w w' := by
  have hmf : ∀ (fn : Fn) (first cap : Array Value) (w : World), (Instr.makeFunc fn first cap).run Try.prog w = .ok (.func fn first cap) w := fun _ _ _ _ => rfl
  have HL := Aside0.mk hl
  obtain ⟨u, hu⟩ : ∃ u, (wp (l.length + 1) l).1 = u := ⟨_, rfl⟩
  obtain ⟨v, hv⟩ : ∃ v, (wp (l.length + 1) l).2 = v := ⟨_, rfl⟩
  have hp : plainB l = (!u && !v) := by unfold plainB; rw [hu, hv]
  rw [hp]
  have HU := Aside0.mk hu
  have HV := Aside0.mk hv
  clear hl hu hv hp
  go_enter Try.func14, Try.ntmps14
  go_wp2_with (first | (go_at_call 22; refine (walk_plain l HL.out w.heap.size _ (heap_alloc_new _ _)).mono ?_; rintro e w2 ⟨rfl, W, hW, hw2⟩; rw [HU.out] at hw2; rw [HV.out]; have HB := Aside0.mk (show Below w.heap.size w w2 from left_below hW hw2); have c0 := left_cell hW hw2; clear hW hw2))
  all_goals
    refine bodyPost_ret (results_tmp rfl _ _ _) rfl ?_
    refine ⟨?_, HB.out⟩
    clear HU HV HB HL
    cases u <;> cases v <;> first | rfl | (exfalso; simp_all; done)
end Go.Proofs.Ytpflnhbhgcediaa.Plain4
