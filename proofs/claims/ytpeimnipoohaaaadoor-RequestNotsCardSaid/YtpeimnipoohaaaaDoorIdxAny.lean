/- strings.IndexAny at any text and a cutset of bytes below 128: the place of the first byte that is one of the cutset's. -/
import Derived.Shelf.Strings.SlTrimAscii
import Derived.Shelf.Small.Strs
import Derived.Shelf.Small.Utf8
import Derived.Lib.OthersKept
import Derived.Lib.TrimU
import Derived.Lib.QuoteLoop
import Derived.Laws.Runes
import Derived.Laws.RangeAny
import Derived.Deep.LoopGhost
import Derived.WalkMore
import Derived.Shelf.RegionOpenPlain
import Derived.Shelf.Strings.FuncGrows
namespace Go.Proofs.YtpeimnipoohaaaaDoor.IdxAny
open Go.Shelf Go.RowKit Go.Lib Go.Proofs
variable {P : Program} {ρ : Ren}
set_option linter.unusedVariables false
set_option linter.unusedSimpArgs false
theorem valid_of (s : ByteArray) (pos : Nat) : Utf8.valid ((Utf8.decode s pos).1 : Int) = true := by
  have h0 : (s.get! pos).toNat < 256 := UInt8.toNat_lt _
  have h := decodeN_valid (s.size - pos) (s.get! pos).toNat (s.get! (pos + 1)).toNat (s.get! (pos + 2)).toNat (s.get! (pos + 3)).toNat h0
  rw [decode_at, validRune_eq]
  unfold Go.validRune
  exact decide_eq_true (by omega)
theorem ib_high (chars : List UInt8) (c : UInt8) (h : ∀ b ∈ chars, b.toNat < 128) (hc : 128 ≤ c.toNat) : indexByte chars c = -1 := by
  induction chars with
  | nil => rfl
  | cons x xs ih =>
    have hx := h x (List.mem_cons_self ..)
    have hne : ¬ (x == c) = true := fun e => by rw [beq_iff_eq] at e; subst e; omega
    rw [indexByte, ih fun b hb => h b (List.mem_cons_of_mem _ hb)]
    simp [hne]
set_option maxHeartbeats 8000000 in
set_option maxRecDepth 1000000 in
theorem rune_high (L : Lays.n152 P ρ) (chars : ByteArray) (r : Int) (w : World) (hv : Utf8.valid r = true) (hr : 128 ≤ r) (hr2 : r ≠ 65533) (hascii : ∀ b ∈ chars.data.toList, b.toNat < 128) (hs : chars.size < 4294967281) :
    Calls P (ρ.f 152) #[.string chars, .int .i32 r] w fun e w' => e = .returned (.int .i64 (-1)) ∧ ∃ q, w' = w.drewN q := by
  obtain ⟨e2, e4, el⟩ := encode_facts r hv hr
  have hvr : Lib.validRune r = true := by rw [validRune_eq] at hv; exact hv
  have mixed := L.mixed
  have HA : Aside (∀ b ∈ chars.data.toList, b.toNat < 128) := hascii
  clear hascii
  have t3 := L.t3; have a3 := L.a3; have z3 := L.z3; have v3 := L.v3
  have t4 := L.t4; have a4 := L.a4; have z4 := L.z4; have v4 := L.v4
  have t5 := L.t5; have a5 := L.a5; have z5 := L.z5; have v5 := L.v5
  have t9 := L.t9; have a9 := L.a9; have z9 := L.z9; have v9 := L.v9
  have t21 := L.t21; have a21 := L.a21; have z21 := L.z21; have v21 := L.v21
  have e137 : ∀ args w, (callFunc (ρ.f 137) args).run P w = .ok (.enter (ρ.f 137) args) w := enters_of L.f137 (by kernel_rfl) rfl
  have e119 : ∀ args w, (callFunc (ρ.f 119) args).run P w = .ok (.enter (ρ.f 119) args) w := enters_of L.f119 (by kernel_rfl) rfl
  obtain ⟨E, hE⟩ : ∃ E, Utf8.encode r = E := ⟨_, rfl⟩
  rw [hE] at e2 e4 el
  have h1 : decide (0 ≤ r) = true := decide_eq_true (by omega)
  have h2 : decide (r < 128) = false := decide_eq_false (by omega)
  have h3 : (r == 65533) = false := beq_eq_false_iff_ne.2 hr2
  have H4 : Aside (2 ≤ E.size ∧ E.size ≤ 4) := ⟨e2, e4⟩
  have HL : Aside (∀ h : E.size - 1 < E.size, 128 ≤ (E[E.size - 1]'h).toNat) := el
  clear el hv
  go_enter L.f152, Body.n152_ntmps ρ
  go_wp2_with (first
    | (go_at_fn (ρ.f 119); refine (Any.utf8_ValidRune { L with } _ _).mono ?_; rintro e w' ⟨rfl, hw⟩; rw [hw, hvr]))
  have hcv : ∀ W : World, (convert (ρ.t 21) (ρ.t 9) (.int .i32 r)).run P W = .ok (.string E) W := fun W => by rw [← hE]; exact run_convert_int_string W _ _ _ _ (by rw [t21]; rfl) t9
  clear hE
  apply wp_scope_straight
  go_wp2
  clear h1 h2 h3 hr hr2 hvr hcv
  subst hw
  obtain ⟨m, hm⟩ : ∃ m, E.size = m + 1 := ⟨E.size - 1, by omega⟩
  have hm1 : (E.size : Int) - 1 = (m : Int) := by omega
  simp only [hm1]
  have HM : Aside (E.size = m + 1) := hm
  clear hm hm1 e2 e4 H4
  go_loopg [9, 10] 1 (fun g s9 s10 wx => s9 = .int .i64 (m : Int) ∧ s10 = .int .i64 0 ∧ wx = w')
  case atStart => exact ⟨rfl, rfl, rfl⟩
  case round =>
    obtain ⟨rfl, rfl, rfl⟩ := hrel
    by_cases hlt : m < chars.size
    · have hl1 : decide ((m : Int) < (chars.size : Int)) = true := decide_eq_true (by omega)
      have hme : m < E.size := by unfold Aside at HM; omega
      have hhi : 128 ≤ (E[m]'hme).toNat := by
          have h := HL (by unfold Aside at HM; omega)
          have e : E.size - 1 = m := by unfold Aside at HM; omega
          simp only [e] at h
          exact h
      have hne : ((((chars[m]'hlt).toNat : Int)) != (((E[m]'hme).toNat : Int))) = true := by
        have a1 := HA _ (show chars[m]'hlt ∈ chars.data.toList from Array.getElem_mem_toList (xs := chars.data) hlt)
        exact bne_iff_ne.2 (by omega)
      have hz : (0 : Int) ≤ (m : Int) := by omega
      have hw1 : IntKind.i64.wrap ((m : Int) + 1) = (m : Int) + 1 := wrap_small _ (by omega) (by omega)
      have hz1 : (0 : Int) ≤ (m : Int) + 1 := by omega
      have hz2 : (m : Int) + 1 ≤ (chars.size : Int) := by omega
      have hib : ∀ W : World, Calls P (ρ.f 137) #[.string (chars.extract (m + 1) chars.size), .int .u8 ((E[m]'hme).toNat : Int)] W fun e w' => e = .returned (.int .i64 (-1)) ∧ w' = W := fun W => by
        have h := Any.strings_IndexByte { L with } (chars.extract (m + 1) chars.size) ((E[m]'hme).toNat : Int) W
        rw [ib_high _ _ (fun b hb => HA b (mem_extract hb)) (by simp; exact hhi)] at h
        exact h
      go_wp2
      apply wp_scope_straight
      go_wp2
      go_quiet_o (fail)
      go_wp2
      go_quiet_o (exact (hib _).mono fun _ _ h => ⟨h.1, _, h.2⟩)
      go_wp2
      all_goals simp only [Exit.noGoto, Exit.inBlock, Exit.then]
      go_ret
      exact ⟨rfl, _, rfl⟩
    · have hl1 : decide ((m : Int) < (chars.size : Int)) = false := decide_eq_false (by omega)
      go_wp2
      all_goals simp only [Exit.noGoto, Exit.inBlock, Exit.then]
      go_ret
      exact ⟨rfl, 0, rfl⟩
set_option maxHeartbeats 8000000 in
set_option maxRecDepth 1000000 in
theorem rune_error (L : Lays.n152 P ρ) (chars : ByteArray) (w : World) (hascii : ∀ (j : Nat) b, chars.data.toList[j]? = some b → b.toNat < 128) :
    Calls P (ρ.f 152) #[.string chars, .int .i32 65533] w fun e w' => e = .returned (.int .i64 (-1)) ∧ ∃ pos, w' = w.iter chars pos := by
  have mixed := L.mixed
  have HA : Aside (∀ (j : Nat) b, chars.data.toList[j]? = some b → b.toNat < 128) := hascii
  clear hascii
  have t3 := L.t3; have a3 := L.a3; have z3 := L.z3; have v3 := L.v3
  have t4 := L.t4; have a4 := L.a4; have z4 := L.z4; have v4 := L.v4
  have t5 := L.t5; have a5 := L.a5; have z5 := L.z5; have v5 := L.v5
  have t9 := L.t9; have a9 := L.a9; have z9 := L.z9; have v9 := L.v9
  have t21 := L.t21; have a21 := L.a21; have z21 := L.z21; have v21 := L.v21
  go_enter L.f152, Body.n152_ntmps ρ
  go_wp2
  go_loopg [5, 6] chars.size (fun g _ _ wx => ∃ i : Nat, i + g = chars.size ∧ wx = w.iter chars i)
  case atStart => exact ⟨0, by omega, rfl⟩
  case round =>
    obtain ⟨i, hig, rfl⟩ := hrel
    cases gk with
    | zero =>
      obtain rfl : i = chars.size := by omega
      have hnx := run_next_end (P := P) w chars chars.size
      go_wp2
      go_ret
      exact ⟨rfl, _, rfl⟩
    | succ g =>
      have hi : i < chars.size := by omega
      obtain ⟨x, hx⟩ : ∃ x : UInt8, chars[i]'hi = x := ⟨_, rfl⟩
      have hx128 : x.toNat < 128 := HA i x (by rw [← hx]; exact Lib.data_getElem? chars i hi)
      have hnx := fun ty => run_next_ascii (P := P) w chars i ty hi (by rw [hx]; exact hx128)
      rw [hx] at hnx
      have hne : ((x.toNat : Int) == 65533) = false := beq_eq_false_iff_ne.2 (by omega)
      go_wp2
      go_roundg g
      case measure => omega
      case rel => exact ⟨i + 1, by omega, rfl⟩
theorem conts (n b0 b1 b2 b3 : Nat) (hn : 1 ≤ n) :
    (2 ≤ (decodeN n b0 b1 b2 b3).2 → b1 / 64 = 2 ∧ 1 < n) ∧ (3 ≤ (decodeN n b0 b1 b2 b3).2 → b2 / 64 = 2 ∧ 2 < n) ∧ (4 ≤ (decodeN n b0 b1 b2 b3).2 → b3 / 64 = 2 ∧ 3 < n) ∧ (decodeN n b0 b1 b2 b3).2 ≤ 4 ∧ 1 ≤ (decodeN n b0 b1 b2 b3).2 := by
  unfold decodeN
  repeat' split
  all_goals (simp only; omega)
theorem get!_at (s : ByteArray) (i : Nat) (h : i < s.size) : s.data.toList[i]? = some (s.get! i) := by
  rw [Lib.data_getElem? s i h]
  simp [ByteArray.get!, getElem!_pos, h]
  rfl
theorem high_run (s : ByteArray) (i : Nat) (hi : i < s.size) (h128 : 128 ≤ (s[i]'hi).toNat) :
    1 ≤ (Utf8.decode s i).2 ∧ i + (Utf8.decode s i).2 ≤ s.size ∧ ∀ j, j < (Utf8.decode s i).2 → ∀ b, s.data.toList[i + j]? = some b → 128 ≤ b.toNat := by
  obtain ⟨c2, c3, c4, c5, c1⟩ := conts (s.size - i) (s.get! i).toNat (s.get! (i + 1)).toNat (s.get! (i + 2)).toNat (s.get! (i + 3)).toNat (by omega)
  rw [← decode_at] at c1 c2 c3 c4 c5
  generalize (Utf8.decode s i).2 = K at *
  refine ⟨c1, ?_, fun j hj b hb => ?_⟩
  · by_cases k2 : 2 ≤ K
    · by_cases k3 : 3 ≤ K
      · by_cases k4 : 4 ≤ K
        · have := (c4 k4).2; omega
        · have := (c3 k3).2; omega
      · have := (c2 k2).2; omega
    · omega
  · match j, hj with
    | 0, _ =>
      have := Lib.data_getElem? s i hi
      rw [Nat.add_zero, this] at hb
      cases hb
      exact h128
    | 1, hj =>
      have h := c2 (by omega)
      rw [get!_at s (i + 1) (by omega)] at hb
      cases hb
      omega
    | 2, hj =>
      have h := c3 (by omega)
      rw [get!_at s (i + 2) (by omega)] at hb
      cases hb
      omega
    | 3, hj =>
      have h := c4 (by omega)
      rw [get!_at s (i + 3) (by omega)] at hb
      cases hb
      omega
    | j + 4, hj => omega
theorem noAny_run {s chars : List UInt8} {i K : Nat} (h : NoAny s chars i) (hc : ∀ b ∈ chars, b.toNat < 128) (hk : ∀ j, j < K → ∀ b, s[i + j]? = some b → 128 ≤ b.toNat) : NoAny s chars (i + K) := fun j b hj hb => by
  by_cases e : j < i
  · exact h j b e hb
  · have h1 := hk (j - i) (by omega) b (by rw [show i + (j - i) = j by omega]; exact hb)
    cases hcon : chars.contains b with
    | false => rfl
    | true => have := hc b (by simpa using hcon); omega
theorem iter_below (w : World) (s : ByteArray) (pos : Nat) : Below w.heap.size w (w.iter s pos) := (Below.refl _ w).alloc (Nat.le_refl _) _
/-- IndexRune at a rune that is none of a cutset of bytes below 128. -/
theorem rune_none (L : Lays.n152 P ρ) (chars s : ByteArray) (i : Nat) (w : World) (hi : i < s.size) (h128 : 128 ≤ (s[i]'hi).toNat) (hascii : ∀ b ∈ chars.data.toList, b.toNat < 128) (hs : chars.size < 4294967281) :
    Calls P (ρ.f 152) #[.string chars, .int .i32 ((Utf8.decode s i).1 : Int)] w fun e w' => e = .returned (.int .i64 (-1)) ∧ Below w.heap.size w w' := by
  by_cases h : ((Utf8.decode s i).1 : Int) = 65533
  · rw [h]
    refine (rune_error L chars w fun j b hj => hascii b (List.mem_of_getElem? hj)).mono fun e w' ⟨he, pos, hw⟩ => ⟨he, ?_⟩
    rw [hw]; exact iter_below w chars pos
  · refine (rune_high L chars _ w (valid_of s i) (by have := (decode_high s i hi h128).1; omega) h hascii hs).mono fun e w' ⟨he, q, hw⟩ => ⟨he, ?_⟩
    rw [hw]; exact below_drewNg w q
set_option maxHeartbeats 8000000 in
set_option maxRecDepth 1000000 in
theorem any_short (L : Lays.n153 P ρ) (s chars : ByteArray) (w : World) (h2 : 2 ≤ chars.size) (h8 : s.size ≤ 8) (hcs : chars.size < 4294967281) (hascii : ∀ b ∈ chars.data.toList, b.toNat < 128) :
    Calls P (ρ.f 153) #[.string s, .string chars] w fun e w' => e = .returned (.int .i64 (Lib.indexAny s.data.toList chars.data.toList)) ∧ Below w.heap.size w w' := by
  have mixed := L.mixed
  have HA : Aside (∀ b ∈ chars.data.toList, b.toNat < 128) := hascii
  clear hascii
  have hemp : chars.toList.isEmpty = false := by
    rw [Lib.toList_data]
    cases h : chars.data.toList with
    | nil => have := Lib.size_eq chars; rw [h, List.length_nil] at this; omega
    | cons _ _ => rfl
  have hn1 : ((chars.size : Int) == 1) = false := beq_eq_false_iff_ne.2 (by omega)
  have h8z : decide ((8 : Int) < (s.size : Int)) = false := decide_eq_false (by omega)
  have t3 := L.t3; have a3 := L.a3; have z3 := L.z3; have v3 := L.v3
  have t4 := L.t4; have a4 := L.a4; have z4 := L.z4; have v4 := L.v4
  have t5 := L.t5; have a5 := L.a5; have z5 := L.z5; have v5 := L.v5
  have t9 := L.t9; have a9 := L.a9; have z9 := L.z9; have v9 := L.v9
  have t21 := L.t21; have a21 := L.a21; have z21 := L.z21; have v21 := L.v21
  have e152 : ∀ args w, (callFunc (ρ.f 152) args).run P w = .ok (.enter (ρ.f 152) args) w := enters_of L.f152 (by kernel_rfl) rfl
  have e226 : ∀ args w, (callFunc (ρ.f 226) args).run P w = .ok (.enter (ρ.f 226) args) w := enters_of L.f226 (by kernel_rfl) rfl
  go_enter L.f153, Body.n153_ntmps ρ
  go_wp2_with (go_at_fn (ρ.f 226); refine (Any.strings_shouldUseASCIISet { L with } _ _).mono ?_; rintro e w' ⟨rfl, hw⟩; rw [hw, h8z])
  go_loopg [9, 10] s.size (fun g _ _ wx => ∃ i : Nat, i ≤ s.size ∧ s.size ≤ i + g ∧ wx.heap[w.heap.size]? = some (.stringIter s i) ∧ Aside (Below w.heap.size w wx) ∧ Lib.NoAny s.data.toList chars.data.toList i)
  case atStart => exact ⟨0, by omega, by omega, World.iter_heap w s 0, (Below.refl _ w).alloc (Nat.le_refl _) _, Lib.NoAny.zero _ _⟩
  case round =>
    obtain ⟨i, hi1, hi2, hit, HB, hno⟩ := hrel
    have HN : Aside (Lib.NoAny s.data.toList chars.data.toList i) := hno
    clear hno
    by_cases hi : i < s.size
    · obtain ⟨g, rfl⟩ : ∃ g, gk = g + 1 := ⟨gk - 1, by omega⟩
      obtain ⟨x, hx⟩ : ∃ x : UInt8, s[i]'hi = x := ⟨_, rfl⟩
      have hxl : s.data.toList[i]? = some x := by rw [← hx]; exact Lib.data_getElem? s i hi
      by_cases h128 : x.toNat < 128
      · have hnx : ∀ ty, (Instr.next (.pointer (some ⟨w.heap.size, 0, none⟩)) true ty).run P wr = _ := fun ty => Lib.run_next_ascii_at wr w.heap.size s i ty hit hi (by rw [hx]; exact h128)
        rw [hx] at hnx
        have hit2 := Lib.iterAt_heap wr w.heap.size s i (i + 1) hit
        have HB2 : Aside (Below w.heap.size w (wr.iterAt w.heap.size s (i + 1))) := Lib.below_iterAt HB (Nat.le_refl _) s (i + 1)
        obtain ⟨W, hWd⟩ : ∃ W, wr.iterAt w.heap.size s (i + 1) = W := ⟨_, rfl⟩
        rw [hWd] at hnx hit2 HB2
        have Hx : Aside (s.data.toList[i]? = some x) := hxl
        clear hxl hx hWd hit HB
        have hcon := Lib.contains_iff_indexByte chars.data.toList x
        have hback : ((x.toNat : Int)).toNat.toUInt8 = x := by simp
        have cR := Any.strings_IndexRune_ascii { L with } chars (x.toNat : Int) W (by omega) (by omega)
        rw [hback] at cR
        cases hin : chars.data.toList.contains x
        · rw [hin] at hcon
          have hlt : ¬ ((0 : Int) ≤ Lib.indexByte chars.data.toList x) := of_decide_eq_false hcon.symm
          clear hcon
          go_wp2_with (go_at_fn (ρ.f 152); refine cR.mono ?_; rintro e w' ⟨rfl, hw⟩; rw [hw])
          go_roundg g
          case measure => omega
          case rel => exact ⟨i + 1, by omega, by omega, hit2, HB2, HN.succ Hx hin⟩
        · rw [hin] at hcon
          have hge : (0 : Int) ≤ Lib.indexByte chars.data.toList x := of_decide_eq_true hcon.symm
          clear hcon
          go_wp2_with (go_at_fn (ρ.f 152); refine cR.mono ?_; rintro e w' ⟨rfl, hw⟩; rw [hw])
          go_ret
          exact ⟨by rw [Lib.indexAny_hit HN Hx hin]; rfl, HB2⟩
      · have h128' : 128 ≤ (s[i]'hi).toNat := by rw [hx]; omega
        obtain ⟨k1, k2, k3⟩ := high_run s i hi h128'
        have hnx : ∀ ty, (Instr.next (.pointer (some ⟨w.heap.size, 0, none⟩)) true ty).run P wr = _ := fun ty => Lib.run_next_any_at wr w.heap.size s i ty hit hi
        have cR := fun W => rune_none { L with } chars s i W hi h128' HA hcs
        obtain ⟨R, hR⟩ : ∃ R, (Utf8.decode s i).1 = R := ⟨_, rfl⟩
        obtain ⟨K, hK⟩ : ∃ K, (Utf8.decode s i).2 = K := ⟨_, rfl⟩
        rw [hR, hK] at hnx
        rw [hR] at cR
        rw [hK] at k1 k2 k3
        have hit2 := Lib.iterAt_heap wr w.heap.size s i (i + K) hit
        have HB2 : Aside (Below w.heap.size w (wr.iterAt w.heap.size s (i + K))) := Lib.below_iterAt HB (Nat.le_refl _) s (i + K)
        obtain ⟨W, hWd⟩ : ∃ W, wr.iterAt w.heap.size s (i + K) = W := ⟨_, rfl⟩
        rw [hWd] at hnx hit2 HB2
        have HN2 : Aside (Lib.NoAny s.data.toList chars.data.toList (i + K)) := noAny_run HN HA k3
        have hltW : w.heap.size < W.heap.size := (Array.getElem?_eq_some_iff.1 hit2).1
        clear hxl hx hWd hit HB k3 h128'
        go_wp2_with (go_at_fn (ρ.f 152); refine (cR W).mono ?_; rintro e w' ⟨rfl, hbw⟩)
        go_roundg g
        case measure => omega
        case rel => exact ⟨i + K, by omega, by omega, (hbw.block _ hltW).trans hit2, Below.trans HB2 (hbw.mono (Below.size HB2)), HN2⟩
    · obtain rfl : i = s.size := by omega
      have hnx : ∀ ty, (Instr.next (.pointer (some ⟨w.heap.size, 0, none⟩)) true ty).run P wr = _ := fun ty => Lib.run_next_end_at wr w.heap.size s s.size ty hit hi
      go_wp2
      go_ret
      exact ⟨by rw [Lib.indexAny_none (by rw [← Lib.size_eq]; exact HN)]; rfl, HB⟩
/-- strings.IndexAny at any text and a cutset of bytes below 128. -/
theorem any_all (L : Lays.n153 P ρ) (h116 : (P.info? (ρ.t 116)).map (fun i => (i.zero, i.size)) = some (some (.agg (Array.replicate 256 (.bool false))), 256)) (s chars : ByteArray) (w : World) (h2 : 2 ≤ chars.size) (hs : s.size < 4294967281) (hcs : chars.size < 4294967281) (hascii : ∀ b ∈ chars.data.toList, b.toNat < 128) :
    Calls P (ρ.f 153) #[.string s, .string chars] w fun e w' => e = .returned (.int .i64 (Lib.indexAny s.data.toList chars.data.toList)) ∧ Below w.heap.size w w' := by
  by_cases h8 : s.size ≤ 8
  · exact any_short L s chars w h2 h8 hcs hascii
  · refine (Any.strings_IndexAny_long L (zero_of_info h116).1 (zero_of_info h116).2 s chars w h2 (by omega) hs hcs fun j b hj => hascii b (List.mem_of_getElem? hj)).mono fun e w' ⟨h1, h2⟩ => ⟨h1, ?_⟩
    rw [h2]
    exact ((Below.refl _ _).alloc (Nat.le_refl _) _).alloc (by simp) _
end Go.Proofs.YtpeimnipoohaaaaDoor.IdxAny
