/- hyphen.low: a word in small letters, or none. -/
import Derived.Test.YtegcelmjejhnfaaDoorFBaseHy
import Derived.Test.YtegcelmjejhnfaaDoorQHqx1
import Derived.Test.YtegcelmjejhnfaaDoorNum
import Derived.Lib.ConvBytes
import Derived.Laws.BytesArg
namespace Go.Proofs.YtegcelmjejhnfaaDoor.QHy
open Go.RowKit Go.Proofs.YtegcelmjejhnfaaDoorW.PrintWords Go.Proofs.YtegcelmjejhnfaaDoorW.PrintLast Go.Proofs.YtegcelmjejhnfaaDoorW.PrintMore Go.Proofs.YtegcelmjejhnfaaDoorN
set_option linter.unusedVariables false
set_option linter.unusedSimpArgs false
def lowI (b : Int) : Int := if 65 ≤ b ∧ b ≤ 90 then b + 32 else b
def isLow (b : Int) : Bool := decide (97 ≤ b ∧ b ≤ 122)
def hyphen_low.f (a0 : ByteArray) : Option (ByteArray × Bool) :=
  if a0.size < 4611686018427387904 then some (if ((bytesOf a0).map lowI).all isLow = true then (strOfNums ((bytesOf a0).map lowI), decide (1 ≤ a0.size ∧ a0.size ≤ 60)) else (⟨#[]⟩, false)) else none
/-- The row while it is gone over: up to i in small letters. -/
def lowAt (xs : List Int) (i j : Nat) : Int := if j < i then lowI (xs.getD j 0) else xs.getD j 0
theorem set_block {w : World} {g : Nat} {t : TypeId} {cs : Array Value} {fr : Nat × Nat} (h : w.heap[g]? = some (.cells cs t fr)) (i : Nat) (u : Value) : (w.setCell ⟨g, i, none⟩ u).heap[g]? = some (.cells (cs.setIfInBounds i u) t fr) := by
  simp [World.setCell, Array.getElem?_modify, h]
theorem block_cell {w : World} {g : Nat} {t : TypeId} {cs : Array Value} {fr : Nat × Nat} (h : w.heap[g]? = some (.cells cs t fr)) (i : Nat) : w.cell? ⟨g, i, none⟩ = cs[i]? := cell_of_row w g i cs t fr h
/-- The block, its first n cells told. -/
def LowB (w' : World) (g n : Nat) (xs : List Int) (i : Nat) : Prop := ∃ cs fr, w'.heap[g]? = some (.cells cs 5 fr) ∧ n ≤ cs.size ∧ n ≤ fr.1 ∧ ∀ j, j < n → cs[j]? = some (.int .u8 (lowAt xs i j))
theorem LowB.cell {w' : World} {g n : Nat} {xs : List Int} {i j : Nat} (h : LowB w' g n xs i) (hj : j < n) : w'.cell? ⟨g, j, none⟩ = some (.int .u8 (lowAt xs i j)) := by
  obtain ⟨cs, fr, h1, _, _, h2⟩ := h
  rw [block_cell h1]
  exact h2 j hj
theorem LowB.frozen {w' : World} {g n : Nat} {xs : List Int} {i j : Nat} (h : LowB w' g n xs i) (hj : j < n) : w'.frozen? ⟨g, j, none⟩ = false := by
  obtain ⟨cs, fr, h1, _, h3, _⟩ := h
  simp [World.frozen?, h1]
  omega
theorem LowB.set {w' : World} {g n : Nat} {xs : List Int} {i : Nat} (h : LowB w' g n xs i) (hi : i < n) : LowB (w'.setCell ⟨g, i, none⟩ (.int .u8 (lowI (xs.getD i 0)))) g n xs (i + 1) := by
  obtain ⟨cs, fr, h1, h2, h3, h4⟩ := h
  refine ⟨_, fr, set_block h1 i _, by simpa using h2, h3, fun j hj => ?_⟩
  rw [Array.getElem?_setIfInBounds]
  by_cases e : i = j
  · subst e
    rw [if_pos rfl, if_pos (by omega)]
    unfold lowAt
    rw [if_pos (by omega)]
  · rw [if_neg e, h4 j hj]
    unfold lowAt
    by_cases c : j < i
    · rw [if_pos c, if_pos (by omega)]
    · rw [if_neg c, if_neg (by omega)]
theorem LowB.keep {w' : World} {g n : Nat} {xs : List Int} {i : Nat} (h : LowB w' g n xs i) (hi : i < n) (hl : lowI (xs.getD i 0) = xs.getD i 0) : LowB w' g n xs (i + 1) := by
  obtain ⟨cs, fr, h1, h2, h3, h4⟩ := h
  refine ⟨cs, fr, h1, h2, h3, fun j hj => ?_⟩
  rw [h4 j hj]
  unfold lowAt
  by_cases e : j = i
  · subst e
    rw [if_neg (by omega), if_pos (by omega), hl]
  · by_cases c : j < i
    · rw [if_pos c, if_pos (by omega)]
    · rw [if_neg c, if_neg (by omega)]
theorem LowB.below {w' w'' : World} {g n : Nat} {xs : List Int} {i : Nat} (h : LowB w' g n xs i) (hb : Below w'.heap.size w' w'') : LowB w'' g n xs i := by
  obtain ⟨cs, fr, h1, h2⟩ := h
  exact ⟨cs, fr, (hb.block g (Array.getElem?_eq_some_iff.1 h1).1).trans h1, h2⟩
theorem conv_low {P : Program} (w : World) (src dst : TypeId) (s : ByteArray) (hs : P.underlying src = some .string) (hd : P.underlying dst = some (.slice 5)) (he : P.underlying 5 = some (.int .u8)) :
    ∃ W1 c, (convert src dst (.string s)).run P w = .ok (.slice (some ⟨w.heap.size, 0, none⟩) s.size c) W1 ∧ Below w.heap.size w W1 ∧ W1.heap.size = w.heap.size + 1 ∧ LowB W1 w.heap.size s.size (bytesOf s) 0 := by
  refine ⟨_, _, Go.Lib.run_convert_string_bytes w src dst 5 s hs hd he, ⟨rfl, rfl, rfl, ?_, fun i hi => Go.Lib.bytesWorld_at_old w 5 s i hi⟩, Go.Lib.bytesWorld_size w 5 s, ?_⟩
  · rw [Go.Lib.bytesWorld_size]; omega
  · have hsz : s.size ≤ (Go.Lib.bytesCells w 5 s).size := by
      rcases Nat.eq_zero_or_pos s.size with h0 | h0
      · omega
      · have h := Go.Lib.bytesWorld_cell w 5 s (s.size - 1) (by omega)
        rw [block_cell (Go.Lib.bytesWorld_at_new w 5 s)] at h
        have := (Array.getElem?_eq_some_iff.1 h).1
        omega
    refine ⟨_, _, Go.Lib.bytesWorld_at_new w 5 s, hsz, hsz, fun j hj => ?_⟩
    have h := Go.Lib.bytesWorld_cell w 5 s j hj
    rw [block_cell (Go.Lib.bytesWorld_at_new w 5 s)] at h
    rw [h]
    unfold lowAt
    simp [bytesOf, List.getD, hj]
theorem rd_low (xs : List Int) (i : Nat) : lowAt xs i i = xs.getD i 0 := by unfold lowAt; rw [if_neg (by omega)]
theorem bytes_range (s : ByteArray) (i : Nat) : 0 ≤ (bytesOf s).getD i 0 ∧ (bytesOf s).getD i 0 ≤ 255 := by
  rw [List.getD_eq_getElem?_getD]
  cases h : (bytesOf s)[i]? with
  | none => simp
  | some x =>
    have hm := List.mem_of_getElem? h
    unfold bytesOf at hm
    obtain ⟨b, _, rfl⟩ := List.mem_map.1 hm
    have := b.toNat_lt
    simp
    omega
theorem all_stop (xs : List Int) (i : Nat) (hi : i < xs.length) (h : isLow (lowI (xs.getD i 0)) = false) : (xs.map lowI).all isLow = false := by
  rw [List.all_eq_false]
  refine ⟨lowI (xs.getD i 0), List.mem_map.2 ⟨xs.getD i 0, ?_, rfl⟩, by rw [h]; simp⟩
  rw [List.getD_eq_getElem?_getD, List.getElem?_eq_getElem hi]
  exact List.getElem_mem _
theorem all_go (xs : List Int) (h : ∀ j, j < xs.length → isLow (lowI (xs.getD j 0)) = true) : (xs.map lowI).all isLow = true := by
  rw [List.all_eq_true]
  intro x hx
  obtain ⟨y, hy, rfl⟩ := List.mem_map.1 hx
  obtain ⟨j, hj, rfl⟩ := List.getElem_of_mem hy
  have := h j hj
  rw [List.getD_eq_getElem?_getD, List.getElem?_eq_getElem hj] at this
  exact this
theorem u8_low {b : Int} (h0 : 65 ≤ b) (h1 : b ≤ 90) : IntKind.u8.wrap (IntKind.u8.wrap (b + 97) - 65) = b + 32 := by
  simp [IntKind.wrap, IntKind.signed, IntKind.bits]
  omega
set_option maxHeartbeats 8000000 in
set_option maxRecDepth 100000 in
theorem hyphen_low.calls (a0 : ByteArray) (r1 : ByteArray) (r2 : Bool) (w : World) (h : hyphen_low.f a0 = some (r1, r2)) :
    Calls Tryd.prog 31 #[.string a0] w fun e w' => e = .returned (.tuple #[.string r1, .bool r2]) ∧ Below w.heap.size w w' := by
  unfold hyphen_low.f at h
  split at h
  · rename_i hs
    obtain ⟨W1, c, hcv, hb1, hz1, hl1⟩ := conv_low w 9 37 a0 Tryd.underlying9 Tryd.underlying37 Tryd.underlying5
    have hlen := bytesOf_length a0
    have HR := Aside0.mk (fun i => bytes_range a0 i)
    obtain ⟨xs, hxs⟩ : ∃ xs, xs = bytesOf a0 := ⟨_, rfl⟩
    rw [← hxs] at hlen hl1 h HR
    have HB1 := Aside0.mk hb1
    have HZ1 := Aside0.mk hz1
    have HL1 := Aside0.mk hl1
    have HL := Aside0.mk hlen
    have HS := Aside0.mk hs
    have H := Aside0.mk (Option.some.inj h)
    clear hb1 hz1 hl1 hlen hs h hxs
    go_enter Tryd.func31, Tryd.ntmps31
    go_wp2
    clear hcv
    go_loopg [11] (a0.size + 2) (fun kq v11 w' => ∃ (i : Nat), v11 = .int .i64 (i : Int) ∧ Aside0 (i + kq = a0.size + 2) ∧ Aside0 (i ≤ a0.size) ∧ Aside0 (∀ j, j < i → isLow (lowI (xs.getD j 0)) = true) ∧ Aside0 (LowB w' w.heap.size a0.size xs i) ∧ Aside0 (Below w.heap.size w w'))
    case atStart => exact ⟨0, rfl, ⟨by omega⟩, ⟨by omega⟩, ⟨fun j hj => absurd hj (by omega)⟩, HL1, HB1⟩
    case round =>
      obtain ⟨i, rfl, H2, H3, HA, HC, HB⟩ := hrel
      cases gk with
      | zero => exact absurd H2.out (by have := H3.out; omega)
      | succ k1 =>
        by_cases c2 : i < a0.size
        · have t2 : decide ((i : Int) < (a0.size : Int)) = true := decide_eq_true (by omega)
          have t3 : ((i : Int) < (a0.size : Int)) = True := eq_true (by omega)
          have t4 : (0 ≤ (i : Int)) = True := eq_true (by omega)
          have hx : wr.cell? ⟨w.heap.size, i, none⟩ = some (.int .u8 (xs.getD i 0)) := by rw [HC.out.cell c2, rd_low]
          have hf := HC.out.frozen c2
          obtain ⟨b, hb⟩ : ∃ b, xs.getD i 0 = b := ⟨_, rfl⟩
          have hb0 := HR.out i
          rw [hb] at hx hb0
          have HBB := Aside0.mk hb
          have HI := Aside0.mk c2
          have e1 := Aside0.mk (show wrap64 ((i : Int) + 1) = ((i + 1 : Nat) : Int) by have := HS.out; rw [w64 (by omega) (by omega)]; omega)
          clear c2 hb
          by_cases cb : 65 ≤ b ∧ b ≤ 90
          · have t5 : decide (65 ≤ b) = true := decide_eq_true cb.1
            have t6 : decide (b ≤ 90) = true := decide_eq_true cb.2
            have t7 : (65 ≤ b) = True := eq_true cb.1
            have t8 : (b ≤ 90) = True := eq_true cb.2
            have e2 : (b + 97 - 65) % 256 = b + 32 := by omega
            have e3 : ((b + 97) % 256 - 65) % 256 = b + 32 := by omega
            have HS2 := Aside0.mk (show QHq.hyphen_small.f (b + 32) = some true by unfold QHq.hyphen_small.f; rw [if_pos (by omega), decide_eq_true (by omega)])
            have HCB := Aside0.mk cb
            clear cb hb0
            go_wp2_with (first | ((with_reducible refine gate_callee (f := 47) rfl ?_); refine goesL_ (some 32) rfl rfl Tryd.func47 (by kernel_rfl) rfl #[.int .u8 (b + 32)] rfl (by (try simp only [List.map_toArray, List.map_cons, List.map_nil]); first | done | rfl) ?_; refine (QHq.hyphen_small.calls (b + 32) true _ HS2.out).mono ?_; rintro e w2 ⟨rfl, hd⟩; have HD := Aside0.mk hd; clear hd; refine ⟨_, rfl, ?_⟩))
            go_roundg k1
            case measure => omega
            case rel =>
              obtain ⟨⟨m, rfl⟩⟩ := HD.out
              have hl : lowI (xs.getD i 0) = b + 32 := by rw [HBB.out]; unfold lowI; rw [if_pos HCB.out]
              have hset := HC.out.set HI.out
              rw [hl] at hset
              refine ⟨i + 1, by rw [e1.out], ⟨by have := H2.out; omega⟩, ⟨HI.out⟩, ⟨fun j hj => ?_⟩, ⟨hset.below (pw_below_drewN (Below.refl _ _) m)⟩, ⟨pw_below_drewN (below_set HB.out (Nat.le_refl _)) m⟩⟩
              by_cases e : j = i
              · subst e
                rw [hl]
                have := HCB.out
                exact decide_eq_true (by omega)
              · exact HA.out j (by omega)
          · have hl : lowI b = b := by unfold lowI; rw [if_neg cb]
            have HL2 := Aside0.mk hl
            clear hl
            obtain ⟨sm, hsm⟩ : ∃ sm, QHq.hyphen_small.f b = some sm ∧ sm = isLow b := by
              unfold QHq.hyphen_small.f isLow
              by_cases c : b ≥ 97
              · rw [if_pos c]; exact ⟨_, rfl, by by_cases c2 : b ≤ 122 <;> simp [c2] <;> omega⟩
              · rw [if_neg c]; exact ⟨_, rfl, (decide_eq_false (by omega)).symm⟩
            have HS2 := Aside0.mk hsm.1
            have HSM := Aside0.mk hsm.2
            clear hsm
            have tests : (decide (65 ≤ b) = false ∧ (65 ≤ b) = False) ∨ (decide (65 ≤ b) = true ∧ (65 ≤ b) = True ∧ decide (b ≤ 90) = false ∧ (b ≤ 90) = False) := by
              by_cases c : 65 ≤ b
              · exact Or.inr ⟨decide_eq_true c, eq_true c, decide_eq_false (by omega), eq_false (by omega)⟩
              · exact Or.inl ⟨decide_eq_false c, eq_false c⟩
            clear cb hb0
            rcases tests with ⟨t5, t6⟩ | ⟨t5, t6, t7, t8⟩
            all_goals
              cases sm
              · have hall := all_stop xs i (by have := HL.out; have := HI.out; omega) (by rw [HBB.out, HL2.out, ← HSM.out])
                have h9 := H.out
                rw [hall, if_neg (by simp)] at h9
                injection h9 with h10 h11
                subst h10 h11
                go_wp2_with (first | ((with_reducible refine gate_callee (f := 47) rfl ?_); refine goesL_ (some 32) rfl rfl Tryd.func47 (by kernel_rfl) rfl #[.int .u8 b] rfl (by (try simp only [List.map_toArray, List.map_cons, List.map_nil]); first | done | rfl) ?_; refine (QHq.hyphen_small.calls b false _ HS2.out).mono ?_; rintro e w2 ⟨rfl, hd⟩; have HD := Aside0.mk hd; clear hd; refine ⟨_, rfl, ?_⟩))
                go_ret2
                obtain ⟨⟨m, rfl⟩⟩ := HD.out
                exact ⟨rfl, pw_below_drewN HB.out m⟩
              · go_wp2_with (first | ((with_reducible refine gate_callee (f := 47) rfl ?_); refine goesL_ (some 32) rfl rfl Tryd.func47 (by kernel_rfl) rfl #[.int .u8 b] rfl (by (try simp only [List.map_toArray, List.map_cons, List.map_nil]); first | done | rfl) ?_; refine (QHq.hyphen_small.calls b true _ HS2.out).mono ?_; rintro e w2 ⟨rfl, hd⟩; have HD := Aside0.mk hd; clear hd; refine ⟨_, rfl, ?_⟩))
                go_roundg k1
                case measure => omega
                case rel =>
                  obtain ⟨⟨m, rfl⟩⟩ := HD.out
                  have hl : lowI (xs.getD i 0) = xs.getD i 0 := by rw [HBB.out, HL2.out]
                  refine ⟨i + 1, by rw [e1.out], ⟨by have := H2.out; omega⟩, ⟨HI.out⟩, ⟨fun j hj => ?_⟩, ⟨(HC.out.keep HI.out hl).below (pw_below_drewN (Below.refl _ _) m)⟩, ⟨pw_below_drewN HB.out m⟩⟩
                  by_cases e : j = i
                  · subst e
                    rw [hl, HBB.out, ← HSM.out]
                  · exact HA.out j (by omega)
        · have hi : i = a0.size := by have := H3.out; omega
          subst hi
          have t2 : decide ((a0.size : Int) < (a0.size : Int)) = false := decide_eq_false (by omega)
          have t3 : ((a0.size : Int) < (a0.size : Int)) = False := eq_false (by omega)
          have hall := all_go xs (fun j hj => HA.out j (by have := HL.out; omega))
          have h9 := H.out
          rw [hall, if_pos rfl] at h9
          injection h9 with h10 h11
          have hcv2 := run_convert_bytes_arg (P := Tryd.prog) wr 37 5 Tryd.underlying37 Tryd.underlying5 w.heap.size 0 a0.size c (xs.map lowI) (by rw [List.length_map]; exact HL.out) (fun j hj => by
            rw [Nat.zero_add, HC.out.cell hj]
            unfold lowAt
            rw [if_pos hj]
            congr 2
            rw [List.getD_eq_getElem?_getD, List.getD_eq_getElem?_getD, List.getElem?_map, List.getElem?_eq_getElem (by have := HL.out; omega)]
            rfl) 9 Tryd.underlying9
          rw [h10] at hcv2
          have H11 := Aside0.mk h11
          clear h10 h11 hall c2
          by_cases c5 : 1 ≤ a0.size
          · have t5 : decide (1 ≤ (a0.size : Int)) = true := decide_eq_true (by omega)
            have t6 : (1 ≤ (a0.size : Int)) = True := eq_true (by omega)
            by_cases c6 : a0.size ≤ 60
            · have t7 : decide ((a0.size : Int) ≤ 60) = true := decide_eq_true (by omega)
              have t8 : ((a0.size : Int) ≤ 60) = True := eq_true (by omega)
              have hr : r2 = true := by rw [← H11.out]; exact decide_eq_true ⟨c5, c6⟩
              subst hr
              clear c5 c6
              go_wp2
              go_ret2
              exact ⟨rfl, HB.out⟩
            · have t7 : decide ((a0.size : Int) ≤ 60) = false := decide_eq_false (by omega)
              have t8 : ((a0.size : Int) ≤ 60) = False := eq_false (by omega)
              have hr : r2 = false := by rw [← H11.out]; exact decide_eq_false (by omega)
              subst hr
              clear c5 c6
              go_wp2
              go_ret2
              exact ⟨rfl, HB.out⟩
          · have t5 : decide (1 ≤ (a0.size : Int)) = false := decide_eq_false (by omega)
            have t6 : (1 ≤ (a0.size : Int)) = False := eq_false (by omega)
            have hr : r2 = false := by rw [← H11.out]; exact decide_eq_false (by omega)
            subst hr
            clear c5
            go_wp2
            go_ret2
            exact ⟨rfl, HB.out⟩
  · cases h
end Go.Proofs.YtegcelmjejhnfaaDoor.QHy
