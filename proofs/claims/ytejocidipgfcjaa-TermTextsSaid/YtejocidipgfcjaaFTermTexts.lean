/- What term.Text and term.Plain compute. -/
import Derived.Test.YtejocidipgfcjaaQTermTextsx0
import Derived.Test.YtejocidipgfcjaaSMap
import Derived.Lib.ConvBytes
namespace Go.Proofs.Ytejocidipgfcjaa.QTermTexts
open Go.RowKit Go.Proofs.YtejocidipgfcjaaW.PrintWords Go.Proofs.YtejocidipgfcjaaW.PrintLast Go.Proofs.YtejocidipgfcjaaW.PrintMore Go.Proofs.YtejocidipgfcjaaS
set_option linter.unusedVariables false
set_option linter.unusedSimpArgs false

def tab : List (ByteArray × ByteArray) := [(⟨#[98, 117]⟩, ⟨#[111]⟩), (⟨#[101, 109]⟩, ⟨#[45, 45]⟩), (⟨#[101, 110]⟩, ⟨#[45]⟩), (⟨#[104, 121]⟩, ⟨#[45]⟩), (⟨#[109, 105]⟩, ⟨#[45]⟩), (⟨#[112, 108]⟩, ⟨#[43]⟩), (⟨#[101, 113]⟩, ⟨#[61]⟩), (⟨#[45, 62]⟩, ⟨#[45, 62]⟩), (⟨#[60, 45]⟩, ⟨#[60, 45]⟩), (⟨#[102, 105]⟩, ⟨#[102, 105]⟩), (⟨#[102, 108]⟩, ⟨#[102, 108]⟩), (⟨#[102, 102]⟩, ⟨#[102, 102]⟩), (⟨#[109, 117]⟩, ⟨#[120]⟩), (⟨#[99, 111]⟩, ⟨#[40, 99, 41]⟩), (⟨#[114, 117]⟩, ⟨#[95]⟩), (⟨#[117, 108]⟩, ⟨#[95]⟩), (⟨#[98, 114]⟩, ⟨#[124]⟩)]
def tabV : List (ByteArray × Value) := tab.map fun p => (p.1, .string p.2)
def inTab (s : ByteArray) : List (ByteArray × ByteArray) → ByteArray
  | [] => ⟨#[63]⟩
  | p :: r => if s = p.1 then p.2 else inTab s r
def term_Text.f (a0 : ByteArray) : Option ByteArray := if (a0.size : Int) = 1 then some a0 else some (inTab a0 tab)
theorem look_tab (s : ByteArray) : ∀ l : List (ByteArray × ByteArray), (smLook s (l.map fun p => (p.1, Value.string p.2)) = none ∧ inTab s l = ⟨#[63]⟩) ∨ smLook s (l.map fun p => (p.1, Value.string p.2)) = some (.string (inTab s l))
  | [] => .inl ⟨rfl, rfl⟩
  | p :: r => by
    simp only [List.map_cons, smLook, inTab]
    split
    · exact .inr rfl
    · exact look_tab s r
theorem made_map (w : World) : (w.alloc (.map #[] 0)).heap[w.heap.size]? = some (smap []) := heap_alloc_new w _
set_option maxHeartbeats 4000000 in
set_option maxRecDepth 100000 in
theorem term_Text.calls (a0 : ByteArray) (r : ByteArray) (w : World) (h : term_Text.f a0 = some r) :
    Calls Try.prog 11 #[.string a0] w fun e w' => e = .returned (.string r) ∧ Below w.heap.size w w' := by
  have hmm := @run_makeMap Try.prog
  have HB := Aside0.mk ((Below.refl w.heap.size w).alloc (Nat.le_refl _) (.map #[] 0))
  have HM := Aside0.mk (made_map w)
  unfold term_Text.f at h
  by_cases c : (a0.size : Int) = 1
  · rw [if_pos c] at h
    obtain rfl := Option.some.inj h
    have c1 : ((a0.size : Int) == 1) = true := beq_iff_eq.2 c
    clear h c
    go_enter Try.func11, Try.ntmps11
    go_wp2_with (first | ((with_reducible refine insert_new rfl _ _ _ 54 9 9 rfl Try.underlying54 Try.underlying9 w.heap.size _ _ (.string _) rfl rfl rfl HM.out (by first | rfl | decide) ?_); intro W1 hm1 hb1; simp only [List.nil_append, List.cons_append] at hm1; have n1_ := Aside0.mk hm1; have n2_ := Aside0.mk (HB.out.trans hb1); clear HM HB hm1 hb1; have HM := n1_; have HB := n2_; clear n1_ n2_))
    go_ret
    exact ⟨rfl, HB.out⟩
  · rw [if_neg c] at h
    obtain rfl := Option.some.inj h
    have c1 : ((a0.size : Int) == 1) = false := beq_eq_false_iff_ne.2 c
    have hz : ∀ W : World, Aside0 ((zeroValue 9).run Try.prog W = .ok (.string ⟨#[]⟩) W) := fun W => ⟨by kernel_rfl⟩
    clear h c
    rcases look_tab a0 tab with ⟨h1, h2⟩ | h1
    · rw [h2]
      have HL := Aside0.mk h1
      clear h1 h2
      go_enter Try.func11, Try.ntmps11
      go_wp2_with (first | ((with_reducible refine insert_new rfl _ _ _ 54 9 9 rfl Try.underlying54 Try.underlying9 w.heap.size _ _ (.string _) rfl rfl rfl HM.out (by first | rfl | decide) ?_); intro W1 hm1 hb1; simp only [List.nil_append, List.cons_append] at hm1; have n1_ := Aside0.mk hm1; have n2_ := Aside0.mk (HB.out.trans hb1); clear HM HB hm1 hb1; have HM := n1_; have HB := n2_; clear n1_ n2_) | ((refine lookup_ok rfl _ _ 54 9 9 rfl Try.underlying54 Try.underlying9 w.heap.size tabV a0 (.string ⟨#[]⟩) rfl rfl HM.out (hz _).out ?_); rw [show smLook a0 tabV = none from HL.out]; simp only [Option.getD_none, Option.isSome_none]))
      go_ret
      exact ⟨rfl, HB.out⟩
    · have HL := Aside0.mk h1
      clear h1
      generalize inTab a0 tab = y at HL ⊢
      go_enter Try.func11, Try.ntmps11
      go_wp2_with (first | ((with_reducible refine insert_new rfl _ _ _ 54 9 9 rfl Try.underlying54 Try.underlying9 w.heap.size _ _ (.string _) rfl rfl rfl HM.out (by first | rfl | decide) ?_); intro W1 hm1 hb1; simp only [List.nil_append, List.cons_append] at hm1; have n1_ := Aside0.mk hm1; have n2_ := Aside0.mk (HB.out.trans hb1); clear HM HB hm1 hb1; have HM := n1_; have HB := n2_; clear n1_ n2_) | ((refine lookup_ok rfl _ _ 54 9 9 rfl Try.underlying54 Try.underlying9 w.heap.size tabV a0 (.string ⟨#[]⟩) rfl rfl HM.out (hz _).out ?_); rw [show smLook a0 tabV = some (.string y) from HL.out]; simp only [Option.getD_some, Option.isSome_some]))
      go_ret
      exact ⟨rfl, HB.out⟩

/-! ### term.Plain -/
def term_Plain.l0 : Nat → List Int → List Int → Int → Option ByteArray
  | 0, _, _, _ => none
  | k + 1, xs, x3, x9 => if x9 < (xs.length : Int) then (if 0 ≤ x9 then (if rd xs x9 = 8 then (if (x3.length : Int) > 0 then term_Plain.l0 k xs (x3.take (x3.length - 1)) (wrap64 (x9 + 1)) else (if x3.length < 140737488355328 then term_Plain.l0 k xs (x3 ++ [rd xs x9]) (wrap64 (x9 + 1)) else none)) else (if x3.length < 140737488355328 then term_Plain.l0 k xs (x3 ++ [rd xs x9]) (wrap64 (x9 + 1)) else none)) else none) else some (strOfNums x3)
def term_Plain.f (k : Nat) (a0 : ByteArray) : Option ByteArray := if a0.size ≤ 140737488351232 then term_Plain.l0 k (bytesOf a0) [] 0 else none
theorem term_Plain.mono_l : ∀ k, (∀ y0 y1 y2, LeO (term_Plain.l0 k y0 y1 y2) (term_Plain.l0 (k + 1) y0 y1 y2))
  | 0 => fun _ _ _ r h => by simp [term_Plain.l0] at h
  | k + 1 => by
    have ih0 := term_Plain.mono_l k
    intro y0 y1 y2
    unfold term_Plain.l0
    repeat' first
    | (with_reducible exact ih0 _ _ _)
    | (with_reducible exact LeO.refl _)
    | (with_reducible exact LeO.none _)
    | (with_reducible refine LeO.ite ?_ ?_)
    | exact ih0 _ _ _
theorem term_Plain.mono : ∀ a0 k, LeO (term_Plain.f k a0) (term_Plain.f (k + 1) a0) := by
  intro a0 k
  have ih0 := term_Plain.mono_l k
  unfold term_Plain.f
  exact LeO.ite (ih0 _ _ _) (LeO.none _)
/-- A string turned into bytes: a new block, which reads as the bytes. -/
theorem conv_bytes {P : Program} (w : World) (src dst e : TypeId) (s : ByteArray) (hs : P.underlying src = some .string) (hd : P.underlying dst = some (.slice e)) (he : P.underlying e = some (.int .u8)) :
    ∃ W1 c, (convert src dst (.string s)).run P w = .ok (.slice (some ⟨w.heap.size, 0, none⟩) s.size c) W1 ∧ Below w.heap.size w W1 ∧ W1.heap.size = w.heap.size + 1 ∧ ∀ j, j < s.size → W1.cell? ⟨w.heap.size, j, none⟩ = some (.int .u8 ((bytesOf s).getD j 0)) := by
  refine ⟨_, _, Go.Lib.run_convert_string_bytes w src dst e s hs hd he, ⟨rfl, rfl, rfl, ?_, fun i hi => Go.Lib.bytesWorld_at_old w e s i hi⟩, Go.Lib.bytesWorld_size w e s, fun j hj => ?_⟩
  · rw [Go.Lib.bytesWorld_size]; omega
  · rw [Go.Lib.bytesWorld_cell w e s j hj]
    simp [bytesOf, List.getD, hj]
theorem some_of_ite {α : Type} {p : Prop} [Decidable p] {a : Option α} {r : α} (h : (if p then a else none) = some r) : p ∧ a = some r := by
  split at h
  · exact ⟨‹_›, h⟩
  · cases h
set_option maxHeartbeats 8000000 in
set_option maxRecDepth 100000 in
theorem term_Plain.calls (k : Nat) (a0 : ByteArray) (r : ByteArray) (w : World) (h : term_Plain.f k a0 = some r) :
    Calls Try.prog 13 #[.string a0] w fun e w' => e = .returned (.string r) ∧ Below w.heap.size w w' := by
  obtain ⟨_, H0⟩ := some_of_ite h
  clear h
  obtain ⟨W1, c, hcv, hb1, hz1, hc1⟩ := conv_bytes w 9 56 5 a0 Try.underlying9 Try.underlying56 Try.underlying5
  have hlen := bytesOf_length a0
  have h8 : ∀ h : 0 < (⟨#[8]⟩ : ByteArray).size, (((⟨#[8]⟩ : ByteArray)[0]'h).toNat : Int) = 8 := fun _ => rfl
  obtain ⟨xs, hxs⟩ : ∃ xs, xs = bytesOf a0 := ⟨_, rfl⟩
  rw [← hxs] at hlen hc1 H0
  have HB1 := Aside0.mk hb1
  have HZ1 := Aside0.mk hz1
  have HC1 := Aside0.mk hc1
  have HL := Aside0.mk hlen
  have H' := Aside0.mk H0
  clear hb1 hz1 hc1 hlen H0 hxs
  go_enter Try.func13, Try.ntmps13
  go_wp2
  clear hcv
  go_loopg [3, 9] k (fun kq v3 v9 w' => ∃ (x3 : List Int) (x9 : Int), v9 = .int .i64 x9 ∧ Aside0 (term_Plain.l0 kq xs x3 x9 = some r) ∧ Aside0 (kq ≤ k) ∧ Aside0 (Kd.R (Kd.int .u8) 5 w' W1.heap.size (fun _ => True) v3 x3) ∧ Aside0 (Below W1.heap.size W1 w'))
  case atStart => exact ⟨[], 0, rfl, H', ⟨Nat.le_refl _⟩, ⟨Kd.R_nil _ _ _ _ _⟩, ⟨Below.refl _ _⟩⟩
  case round =>
    clear H'
    obtain ⟨x3, x9, rfl, HA, HK, HO, HB⟩ := hrel
    cases gk with
    | zero => exact absurd HA.out (by simp [term_Plain.l0])
    | succ k1 =>
      have H := HA.out
      clear HA
      simp only [term_Plain.l0] at H
      by_cases c2 : x9 < (xs.length : Int)
      · rw [if_pos c2] at H
        obtain ⟨c3, H⟩ := some_of_ite H
        have hj : x9.toNat < a0.size := by have := HL.out; omega
        have hlt : w.heap.size < W1.heap.size := by have := HZ1.out; omega
        have hx := (HB.out.cell (p := ⟨w.heap.size, x9.toNat, none⟩) hlt).trans (HC1.out _ hj)
        rw [show xs.getD x9.toNat 0 = rd xs x9 from rfl] at hx
        clear hj hlt
        have t1 : decide (x9 < (a0.size : Int)) = true := decide_eq_true (by have := HL.out; omega)
        have t2 : (x9 < (a0.size : Int)) = True := eq_true (by have := HL.out; omega)
        have t3 : decide (0 ≤ x9) = true := decide_eq_true c3
        have t4 : (0 ≤ x9) = True := eq_true c3
        clear c2 c3
        by_cases c5 : rd xs x9 = 8
        · rw [if_pos c5] at H
          have t5 : ((rd xs x9) == 8) = true := beq_iff_eq.mpr c5
          clear c5
          by_cases c6 : (x3.length : Int) > 0
          · rw [if_pos c6] at H
            have t6 : decide (0 < (x3.length : Int)) = true := decide_eq_true c6
            have t7 : decide (0 < x3.length) = true := decide_eq_true (by omega)
            have H' := Aside0.mk H
            clear H
            obtain ⟨Ao, co2, eo⟩ := Kd.R_slice HO.out
            subst eo
            have hw : wrap64 ((x3.length : Int) - 1) = ((x3.length - 1 : Nat) : Int) := by
              have := ((Kd.R_reads' HO.out).2.2).2.1
              unfold wrap64
              omega
            have q11 : (((x3.length - 1 : Nat) : Int)) ≤ ((x3.length : Int)) := by omega
            obtain ⟨i0, hi0, _, hsz, _⟩ := info_parts info5
            have hcut := cut_to (P := Try.prog) 56 5 .i64 Try.underlying56 hi0 Ao x3.length co2 ((x3.length - 1 : Nat) : Int) (by omega) q11 (Kd.R_reads' HO.out).2.1
            have hr := Kd.R_take (m := ((x3.length - 1 : Nat) : Int).toNat) HO.out (by omega)
            have hy : (x3.take (x3.length - 1)).length = ((x3.length - 1 : Nat) : Int).toNat := (by rw [List.length_take]; omega)
            rw [show ((x3.length - 1 : Nat) : Int).toNat = x3.length - 1 by omega] at hr hcut
            rw [← hw] at hcut
            have q12 : (wrap64 ((x3.length : Int) - 1) ≤ (x3.length : Int)) = True := eq_true (by rw [hw]; omega)
            have q13 : (0 ≤ wrap64 ((x3.length : Int) - 1)) = True := eq_true (by rw [hw]; omega)
            clear hi0 hsz c6 q11 hw hy
            go_wp2
            go_roundg k1
            case measure => have := HK.out; omega
            case rel => exact ⟨_, _, rfl, H', ⟨by have := HK.out; omega⟩, ⟨hr⟩, HB⟩
          · rw [if_neg c6] at H
            have t6 : decide (0 < (x3.length : Int)) = false := decide_eq_false c6
            have t7 : decide (0 < x3.length) = false := decide_eq_false (by omega)
            clear c6
            obtain ⟨l1, H⟩ := some_of_ite H
            have LM := Aside0.mk l1
            have H' := Aside0.mk H
            clear l1 H
            obtain ⟨Ao, co2, eo⟩ := Kd.R_slice HO.out
            subst eo
            go_wp2_with (first | ((with_reducible refine gate_builtin (b := .append) (xs := #[.tmp 26, .tmp 28]) rfl ?_); (try (refine gate_guard (by rfl) ?_; dsimp only)); at_builtin; refine Kd.R_append (Kd.int .u8) (w0 := W1) W1.heap.size rfl (.tmp 26) (.tmp 28) 56 5 (.int .u8 0) 1 rfl Try.underlying56 info5 rfl (by decide) (by omega) (.slice Ao x3.length co2) x3 (rd xs x9) [.int .u8 (rd xs x9)] (fun _ => True) (fun _ => False) rfl rfl ?aP (fun _ hk => hk.elim) ?aF ?aO ?aB ?aS ?aL ?_; (case aP => exact rfl); (case aB => exact (by repeat (first | (with_reducible first | exact HB.out | apply below_alloc | apply pw_below_drewN | apply below_drew1) | exact HB.out))); (case aF => exact (fun _ _ => trivial)); (case aO => exact (by (with_reducible repeat (first | apply Kd.R_alloc | apply Kd.R_drewN | apply Kd.R_drew)); exact HO.out)); (case aS => exact (below_size (by repeat (first | (with_reducible first | exact HB.out | apply below_alloc | apply pw_below_drewN | apply below_drew1) | exact HB.out)))); (case aL => have := LM.out; omega); intro v125 w15 ho hb hg hat; have n0_ := Aside0.mk hb; have n1_ := Aside0.mk ho; clear HB HO; have HB := n0_; have HO := n1_; clear n0_ n1_ ho hb hg hat))
            go_roundg k1
            case measure => have := HK.out; omega
            case rel => exact ⟨_, _, rfl, H', ⟨by have := HK.out; omega⟩, HO, HB⟩
        · rw [if_neg c5] at H
          have t5 : ((rd xs x9) == 8) = false := beq_eq_false_iff_ne.mpr c5
          clear c5
          obtain ⟨l1, H⟩ := some_of_ite H
          have LM := Aside0.mk l1
          have H' := Aside0.mk H
          clear l1 H
          obtain ⟨Ao, co2, eo⟩ := Kd.R_slice HO.out
          subst eo
          go_wp2_with (first | ((with_reducible refine gate_builtin (b := .append) (xs := #[.tmp 26, .tmp 28]) rfl ?_); (try (refine gate_guard (by rfl) ?_; dsimp only)); at_builtin; refine Kd.R_append (Kd.int .u8) (w0 := W1) W1.heap.size rfl (.tmp 26) (.tmp 28) 56 5 (.int .u8 0) 1 rfl Try.underlying56 info5 rfl (by decide) (by omega) (.slice Ao x3.length co2) x3 (rd xs x9) [.int .u8 (rd xs x9)] (fun _ => True) (fun _ => False) rfl rfl ?aP (fun _ hk => hk.elim) ?aF ?aO ?aB ?aS ?aL ?_; (case aP => exact rfl); (case aB => exact (by repeat (first | (with_reducible first | exact HB.out | apply below_alloc | apply pw_below_drewN | apply below_drew1) | exact HB.out))); (case aF => exact (fun _ _ => trivial)); (case aO => exact (by (with_reducible repeat (first | apply Kd.R_alloc | apply Kd.R_drewN | apply Kd.R_drew)); exact HO.out)); (case aS => exact (below_size (by repeat (first | (with_reducible first | exact HB.out | apply below_alloc | apply pw_below_drewN | apply below_drew1) | exact HB.out)))); (case aL => have := LM.out; omega); intro v125 w15 ho hb hg hat; have n0_ := Aside0.mk hb; have n1_ := Aside0.mk ho; clear HB HO; have HB := n0_; have HO := n1_; clear n0_ n1_ ho hb hg hat))
          go_roundg k1
          case measure => have := HK.out; omega
          case rel => exact ⟨_, _, rfl, H', ⟨by have := HK.out; omega⟩, HO, HB⟩
      · rw [if_neg c2] at H
        have t1 : decide (x9 < (a0.size : Int)) = false := decide_eq_false (by have := HL.out; omega)
        clear c2
        obtain rfl := Option.some.inj H
        have hcv := own_string (P := Try.prog) Try.underlying56 Try.underlying5 Try.underlying9 (Kd.own_of_R HO.out)
        go_wp2
        go_ret
        exact ⟨rfl, below_then HB1.out HB1.out.size HB.out⟩
end Go.Proofs.Ytejocidipgfcjaa.QTermTexts
