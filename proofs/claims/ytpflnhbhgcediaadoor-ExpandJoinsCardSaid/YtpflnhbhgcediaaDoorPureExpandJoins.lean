/- Lines that end in an odd number of backslashes are joined, as the document says. -/
import Derived.Test.YtpflnhbhgcediaaDoorRdExpandJoins
import Derived.Test.YtpflnhbhgcediaaDoorStr
namespace Go.Proofs.YtpflnhbhgcediaaDoor.Join4
open Go.RowKit Go.Proofs.YtpflnhbhgcediaaDoor.QJo Go.Proofs.YtpflnhbhgcediaaDoorW.PrintWords Go.Proofs.YtpflnhbhgcediaaDoorW.PrintLast Go.Proofs.YtpflnhbhgcediaaDoorW.PrintMore Go.Proofs.YtpflnhbhgcediaaDoorN Go.Proofs.YtpflnhbhgcediaaDoor.Evl Go.Proofs.YtpflnhbhgcediaaDoor.Str
set_option linter.unusedVariables false
/-- How many backslashes stand at the end. -/
def tr (s : List UInt8) : Nat := (s.reverse.takeWhile (· == 92)).length
theorem tr_le (s : List UInt8) : tr s ≤ s.length := by
  have := (List.takeWhile_sublist (fun x : UInt8 => x == 92) (l := s.reverse)).length_le
  rw [List.length_reverse] at this
  exact this
theorem trim_len (s : List UInt8) : (Lib.trimRightB s 92).length + tr s = s.length := by
  have h := congrArg List.length (List.takeWhile_append_dropWhile (p := fun x : UInt8 => x == 92) (l := s.reverse))
  rw [List.length_append, List.length_reverse] at h
  unfold Lib.trimRightB tr
  rw [List.length_reverse]
  omega
def odd (s : List UInt8) : Bool := decide (tr s % 2 = 1)
theorem odd_pos {s : List UInt8} (h : odd s = true) : 0 < s.length := by
  have := of_decide_eq_true h
  have := tr_le s
  omega
/-- A line that is open, and what follows. -/
def jl : List UInt8 → List (List UInt8) → List (List UInt8)
  | s, [] => [s]
  | s, l :: ls => if odd s = true then jl (s.dropLast ++ l) ls else s :: jl l ls
def jn : List (List UInt8) → List (List UInt8)
  | [] => []
  | l :: ls => jl l ls
theorem jl_no {s : List UInt8} (h : ¬ odd s = true) : ∀ ls, jl s ls = s :: jn ls
  | [] => rfl
  | l :: ls => by rw [jl, if_neg h]; rfl
def tot : List (List UInt8) → Nat
  | [] => 0
  | l :: ls => l.length + tot ls
theorem tot_mem : ∀ {ls : List (List UInt8)} {l : List UInt8}, l ∈ ls → l.length ≤ tot ls
  | _ :: ls, l, h => by
    rw [tot]
    rcases List.mem_cons.1 h with rfl | h
    · omega
    · have := tot_mem h; omega
theorem tot_drop : ∀ (ls : List (List UInt8)) (i : Nat), tot (ls.drop i) ≤ tot ls
  | [], i => by simp [tot]
  | l :: ls, 0 => Nat.le_refl _
  | l :: ls, i + 1 => by
    have := tot_drop ls i
    rw [List.drop_succ_cons, tot]
    omega
theorem rdOf_map (P : List (List UInt8)) (i : Nat) (hi : i < P.length) : rdOf ByteArray.empty (P.map mkB) (i : Int) = mkB P[i] := by
  unfold rdOf
  rw [Int.toNat_natCast, List.getD_eq_getElem?_getD, List.getElem?_map, List.getElem?_eq_getElem hi]
  rfl
theorem rdOf_last (Y : List ByteArray) (s : ByteArray) : rdOf ByteArray.empty (Y ++ [s]) (Y.length : Int) = s := by
  unfold rdOf
  rw [Int.toNat_natCast, List.getD_eq_getElem?_getD, List.getElem?_append_right (Nat.le_refl _), Nat.sub_self]
  rfl
theorem set_last (Y : List ByteArray) (s t : ByteArray) : (Y ++ [s]).set Y.length t = Y ++ [t] := by
  rw [List.set_append_right _ _ (Nat.le_refl _), Nat.sub_self, List.set_cons_zero]
theorem trimR (s : List UInt8) (hs : s.length < 4611686018427387904) : strings_TrimRight.f (mkB s) (⟨#[92]⟩ : ByteArray) = some (mkB (Lib.trimRightB s 92)) := by
  unfold strings_TrimRight.f
  show (if (92 : UInt8).toNat < 128 ∧ (mkB s).size ≤ 9223372036854775807 then some _ else none) = _
  rw [if_pos ⟨by decide, by rw [size_mkB]; omega⟩, data_mkB]
  rfl
/-! ### expand.Join -/
section
variable (L : List (List UInt8)) (hL : L.length ≤ 40)
theorem hj_tail (hL : L.length ≤ 40) (i : Nat) (hi : i < L.length) (pre : List (List UInt8)) (s : List UInt8) (hs : s.length + tot (L.drop (i + 1)) ≤ 1000000)
    (ih : ∀ (Y : List (List UInt8)) (op : Bool), Y.length ≤ i + 1 → (op = false → tot (L.drop (i + 1)) ≤ 1000000 → Evl (fun k => expand_Join.l0 k (L.map mkB) (Y.map mkB) false (L.map mkB) (L.length : Int) ((i + 1 : Nat) : Int)) ((Y ++ jn (L.drop (i + 1))).map mkB)))
    (ih2 : ∀ (pre : List (List UInt8)) (c : List UInt8) (h : i + 1 < L.length), pre.length ≤ i → c.length + tot (L.drop (i + 1)) ≤ 1000000 → Evl (fun k => expand_Join.l0 k (L.map mkB) ((pre ++ [c]).map mkB) true (L.map mkB) (L.length : Int) ((i + 1 : Nat) : Int)) ((pre ++ jl (c ++ L[i + 1]) (L.drop (i + 1 + 1))).map mkB))
    (hp : pre.length ≤ i) :
    Evl (fun k => if ((i + 1 : Nat) : Int) < (L.length : Int) then ((strings_TrimRight.f (mkB s) (⟨#[92]⟩ : ByteArray)).bind fun t109 => (if (Int.tmod (wrap64 ((s.length : Int) - (t109.size : Int))) 2) = 1 then (if 0 ≤ (wrap64 ((s.length : Int) - 1)) then (if (wrap64 ((s.length : Int) - 1)) ≤ (s.length : Int) then (expand_Join.l0 k (L.map mkB) (((pre ++ [s]).map mkB).set pre.length ((mkB s).extract 0 ((wrap64 ((s.length : Int) - 1)) : Int).toNat)) ((Int.tmod (wrap64 ((s.length : Int) - (t109.size : Int))) 2) == 1) (L.map mkB) (L.length : Int) ((i + 1 : Nat) : Int)) else (none)) else (none)) else (expand_Join.l0 k (L.map mkB) ((pre ++ [s]).map mkB) ((Int.tmod (wrap64 ((s.length : Int) - (t109.size : Int))) 2) == 1) (L.map mkB) (L.length : Int) ((i + 1 : Nat) : Int)))) else (expand_Join.l0 k (L.map mkB) ((pre ++ [s]).map mkB) false (L.map mkB) (L.length : Int) ((i + 1 : Nat) : Int)))
      ((pre ++ jl s (L.drop (i + 1))).map mkB) := by
  have htl := trim_len s
  have hle := tr_le s
  rw [trimR s (by omega)]
  simp only [Option.bind_some, size_mkB]
  rw [show wrap64 ((s.length : Int) - ((Lib.trimRightB s 92).length : Int)) = (tr s : Int) by rw [w64 (by omega) (by omega)]; omega]
  have e2 : Int.tmod (tr s : Int) 2 = ((tr s % 2 : Nat) : Int) := by rw [Int.tmod_eq_emod_of_nonneg (by omega)]; omega
  rw [e2]
  refine Evl.ite (fun c => Evl.ite (fun c2 => ?_) (fun c2 => ?_)) (fun c => ?_)
  · have ho : odd s = true := decide_eq_true (by omega)
    have hpos := odd_pos ho
    rw [show ((((tr s % 2 : Nat) : Int) == 1) : Bool) = true from beq_iff_eq.2 c2, w64 (x := (s.length : Int) - 1) (by omega) (by omega)]
    refine Evl.pos (by omega) (Evl.pos (by omega) ?_)
    have hi1 : i + 1 < L.length := by omega
    rw [List.map_append, List.map_cons, List.map_nil, show pre.length = (pre.map mkB).length by rw [List.length_map], set_last, extract_mkB, List.drop_zero, show ((s.length : Int) - 1).toNat = s.length - 1 by omega, ← List.dropLast_eq_take]
    have h := ih2 pre s.dropLast hi1 hp (by rw [List.length_dropLast]; omega)
    rw [List.map_append, List.map_cons, List.map_nil] at h
    rw [List.drop_eq_getElem_cons hi1, jl, if_pos ho]
    exact h
  · have ho : ¬ odd s = true := fun h => c2 (by have := of_decide_eq_true h; omega)
    rw [show ((((tr s % 2 : Nat) : Int) == 1) : Bool) = false from beq_eq_false_iff_ne.2 c2]
    have h := ih (pre ++ [s]) false (by rw [List.length_append, List.length_singleton]; omega) rfl (by omega)
    rw [jl_no ho]
    rw [List.append_assoc] at h
    exact h
  · have h := ih (pre ++ [s]) false (by rw [List.length_append, List.length_singleton]; omega) rfl (by omega)
    rw [(List.drop_eq_nil_of_le (by omega) : L.drop (i + 1) = []), jn, List.append_nil] at h
    rw [(List.drop_eq_nil_of_le (by omega) : L.drop (i + 1) = []), jl]
    exact h
theorem hjA (hL : L.length ≤ 40) (i : Nat) (hi : i < L.length) (ihA : ∀ (Y : List (List UInt8)), Y.length ≤ i + 1 → tot (L.drop (i + 1)) ≤ 1000000 → Evl (fun k => expand_Join.l0 k (L.map mkB) (Y.map mkB) false (L.map mkB) (L.length : Int) ((i + 1 : Nat) : Int)) ((Y ++ jn (L.drop (i + 1))).map mkB))
    (ihB : ∀ (pre : List (List UInt8)) (c : List UInt8) (h : i + 1 < L.length), pre.length + 1 ≤ i + 1 → c.length + tot (L.drop (i + 1)) ≤ 1000000 → Evl (fun k => expand_Join.l0 k (L.map mkB) ((pre ++ [c]).map mkB) true (L.map mkB) (L.length : Int) ((i + 1 : Nat) : Int)) ((pre ++ jl (c ++ L[i + 1]) (L.drop (i + 1 + 1))).map mkB))
    (Y : List (List UInt8)) (hY : Y.length ≤ i) (ht : tot (L.drop i) ≤ 1000000) : Evl (fun k => expand_Join.l0 k (L.map mkB) (Y.map mkB) false (L.map mkB) (L.length : Int) (i : Int)) ((Y ++ jn (L.drop i)).map mkB) := by
  have hdrop := List.drop_eq_getElem_cons hi
  refine Evl.succ ?_
  simp only [expand_Join.l0]
  rw [List.length_map, List.length_map, rdOf_map L i hi, wn (by omega)]
  refine Evl.pos (by omega) (Evl.pos (by omega) (Evl.pos (by omega) (Evl.neg (by simp) (Evl.pos (by omega) (Evl.bind (Evl.some _) ?_)))))
  rw [show (Y.map mkB ++ [mkB L[i]]).length = Y.length + 1 by rw [List.length_append, List.length_map, List.length_singleton], show wrap64 (((Y.length + 1 : Nat) : Int) - 1) = ((Y.map mkB).length : Int) by rw [List.length_map, w64 (by omega) (by omega)]; omega, rdOf_last, size_mkB, Int.toNat_natCast, List.length_map]
  rw [hdrop, tot] at ht
  have h := hj_tail L hL i hi Y L[i] ht (fun Y' op h1 _ h3 => ihA Y' h1 h3) (fun pre c h h1 h2 => ihB pre c h (by omega) h2) hY
  rw [List.map_append, List.map_cons, List.map_nil] at h
  rw [hdrop, jn]
  refine Evl.pos (by omega) (Evl.pos (by omega) ?_)
  with_reducible exact h
theorem hjB (hL : L.length ≤ 40) (i : Nat) (hi : i < L.length) (ihA : ∀ (Y : List (List UInt8)), Y.length ≤ i + 1 → tot (L.drop (i + 1)) ≤ 1000000 → Evl (fun k => expand_Join.l0 k (L.map mkB) (Y.map mkB) false (L.map mkB) (L.length : Int) ((i + 1 : Nat) : Int)) ((Y ++ jn (L.drop (i + 1))).map mkB))
    (ihB : ∀ (pre : List (List UInt8)) (c : List UInt8) (h : i + 1 < L.length), pre.length + 1 ≤ i + 1 → c.length + tot (L.drop (i + 1)) ≤ 1000000 → Evl (fun k => expand_Join.l0 k (L.map mkB) ((pre ++ [c]).map mkB) true (L.map mkB) (L.length : Int) ((i + 1 : Nat) : Int)) ((pre ++ jl (c ++ L[i + 1]) (L.drop (i + 1 + 1))).map mkB))
    (pre : List (List UInt8)) (c : List UInt8) (hp : pre.length + 1 ≤ i) (ht : c.length + tot (L.drop i) ≤ 1000000) : Evl (fun k => expand_Join.l0 k (L.map mkB) ((pre ++ [c]).map mkB) true (L.map mkB) (L.length : Int) (i : Int)) ((pre ++ jl (c ++ L[i]) (L.drop (i + 1))).map mkB) := by
  have hdrop := List.drop_eq_getElem_cons hi
  refine Evl.succ ?_
  have e1 : wrap64 (((pre ++ [c]).length : Int) - 1) = ((pre.map mkB).length : Int) := by
    rw [List.length_append, List.length_singleton, List.length_map, w64 (by omega) (by omega)]
    omega
  rw [hdrop, tot] at ht
  have e0 : (List.map mkB (pre ++ [c])) = pre.map mkB ++ [mkB c] := by rw [List.map_append]; rfl
  have e2 : wrap64 ((((pre.map mkB) ++ [mkB c]).length : Int) - 1) = ((pre.map mkB).length : Int) := by
    rw [List.length_append, List.length_singleton, List.length_map, w64 (by omega) (by omega)]
    omega
  simp only [expand_Join.l0]
  rw [e0, e2, List.length_map, rdOf_map L i hi, wn (by omega), rdOf_last, size_mkB, size_mkB, append_mkB]
  refine Evl.pos (by omega) (Evl.pos (by omega) (Evl.pos (by omega) (Evl.pos trivial (Evl.pos (by omega) (Evl.pos (by rw [List.length_append, List.length_singleton]; omega) (Evl.pos (by omega) (Evl.bind (Evl.some _) ?_)))))))
  rw [Int.toNat_natCast, set_last, rdOf_last, size_mkB, List.length_map]
  have g := hj_tail L hL i hi pre (c ++ L[i]) (by rw [List.length_append]; omega) (fun Y' op h1 _ h3 => ihA Y' h1 h3) (fun pre c h h1 h2 => ihB pre c h (by omega) h2) (by omega)
  rw [List.map_append, List.map_cons, List.map_nil] at g
  with_reducible exact g
theorem hj (hL : L.length ≤ 40) : ∀ (m i : Nat), i + m = L.length →
    (∀ (Y : List (List UInt8)), Y.length ≤ i → tot (L.drop i) ≤ 1000000 → Evl (fun k => expand_Join.l0 k (L.map mkB) (Y.map mkB) false (L.map mkB) (L.length : Int) (i : Int)) ((Y ++ jn (L.drop i)).map mkB)) ∧
    (∀ (pre : List (List UInt8)) (c : List UInt8) (h : i < L.length), pre.length + 1 ≤ i → c.length + tot (L.drop i) ≤ 1000000 → Evl (fun k => expand_Join.l0 k (L.map mkB) ((pre ++ [c]).map mkB) true (L.map mkB) (L.length : Int) (i : Int)) ((pre ++ jl (c ++ L[i]) (L.drop (i + 1))).map mkB))
  | 0, i, e => by
    refine ⟨fun Y hY ht => ?_, fun pre c h => absurd h (by omega)⟩
    refine Evl.succ ?_
    simp only [expand_Join.l0]
    rw [(List.drop_eq_nil_of_le (by omega) : L.drop i = []), jn, List.append_nil]
    exact Evl.neg (by omega) (Evl.some _)
  | m + 1, i, e => by
    have hi : i < L.length := by omega
    obtain ⟨ihA, ihB⟩ := hj hL m (i + 1) (by omega)
    exact ⟨fun Y hY ht => hjA L hL i hi ihA ihB Y hY ht, fun pre c h hp ht => hjB L hL i hi ihA ihB pre c hp ht⟩
end
/-! ### the document's Join -/
def T (r : List UInt8) : Nat := (r.takeWhile (· == 92)).length
theorem odd_l (s : List UInt8) (hs : s.length ≤ 1000000) : ∀ (m n : Nat), n + m = s.length → tr s = n + T (s.reverse.drop n) → Evl (fun k => frisketref04_odd.l0 k (mkB s) (n : Int)) (odd s)
  | 0, n, e, h => by
    have hd : s.reverse.drop n = [] := List.drop_eq_nil_of_le (by rw [List.length_reverse]; omega)
    rw [hd, T, List.takeWhile_nil, List.length_nil, Nat.add_zero] at h
    refine Evl.succ ?_
    simp only [frisketref04_odd.l0, size_mkB]
    refine Evl.neg (by omega) ?_
    rw [show ((Int.tmod (n : Int) 2 == 1) : Bool) = odd s by
      unfold odd
      rw [h, Int.tmod_eq_emod_of_nonneg (by omega)]
      exact Bool.eq_iff_iff.2 ⟨fun h => decide_eq_true (by have := beq_iff_eq.1 h; omega), fun h => beq_iff_eq.2 (by have := of_decide_eq_true h; omega)⟩]
    exact Evl.some _
  | m + 1, n, e, h => by
    have hn : n < s.length := by omega
    have hr : n < s.reverse.length := by rw [List.length_reverse]; omega
    have hd : s.reverse.drop n = s.reverse[n] :: s.reverse.drop (n + 1) := List.drop_eq_getElem_cons hr
    have hx : s.reverse[n] = s[s.length - 1 - n] := List.getElem_reverse hr
    refine Evl.succ ?_
    simp only [frisketref04_odd.l0, size_mkB]
    rw [w64 (x := (s.length : Int) - 1) (by omega) (by omega), w64 (x := (s.length : Int) - 1 - (n : Int)) (by omega) (by omega), show (s.length : Int) - 1 - (n : Int) = ((s.length - 1 - n : Nat) : Int) by omega, bt_mkB s (s.length - 1 - n) (by omega), wn (by omega)]
    have hb : ((s[s.length - 1 - n].toNat : Int) = 92) ↔ s[s.length - 1 - n] = 92 := b_eq (n := 92) (by decide)
    refine Evl.pos (by omega) (Evl.pos (by omega) (Evl.pos (by omega) (Evl.ite (fun c => ?_) (fun c => ?_))))
    · refine odd_l s hs m (n + 1) (by omega) ?_
      rw [h, hd, T, hx, hb.1 c, List.takeWhile_cons_of_pos (p := fun x : UInt8 => x == 92) (by rfl), List.length_cons, T]
      omega
    · rw [show ((Int.tmod (n : Int) 2 == 1) : Bool) = odd s by
        unfold odd
        rw [h, hd, T, hx, List.takeWhile_cons_of_neg (p := fun x : UInt8 => x == 92) (fun e => c (hb.2 (beq_iff_eq.1 e))), List.length_nil, Nat.add_zero, Int.tmod_eq_emod_of_nonneg (by omega)]
        exact Bool.eq_iff_iff.2 ⟨fun h => decide_eq_true (by have := beq_iff_eq.1 h; omega), fun h => beq_iff_eq.2 (by have := of_decide_eq_true h; omega)⟩]
      exact Evl.some _
theorem odd_ev (s : List UInt8) (hs : s.length ≤ 1000000) : Evl (fun k => frisketref04_odd.f k (mkB s)) (odd s) := by
  have h := odd_l s hs s.length 0 (by omega) (by rw [List.drop_zero, Nat.zero_add]; rfl)
  simp only [frisketref04_odd.f]
  exact h
section
variable (L : List (List UInt8))
theorem rj1 (hL : L.length ≤ 40) (i : Nat) (hi : i < L.length)
    (ihA : ∀ (Y : List (List UInt8)), Y.length ≤ i + 1 → tot (L.drop (i + 1)) ≤ 1000000 → Evl (fun k => frisketref04_Join.l0 k (L.map mkB) (Y.map mkB) ((i + 1 : Nat) : Int)) ((Y ++ jn (L.drop (i + 1))).map mkB))
    (ihB : ∀ (Y : List (List UInt8)) (s : List UInt8) (h : i + 1 < L.length), Y.length ≤ i + 1 → s.length + tot (L.drop (i + 1 + 1)) ≤ 1000000 → Evl (fun k => frisketref04_Join.l1 k (L.map mkB) (Y.map mkB) ((i + 1 : Nat) : Int) (mkB s)) ((Y ++ jl s (L.drop (i + 1 + 1))).map mkB))
    (Y : List (List UInt8)) (s : List UInt8) (hY : Y.length ≤ i) (hs : s.length + tot (L.drop (i + 1)) ≤ 1000000) : Evl (fun k => frisketref04_Join.l1 k (L.map mkB) (Y.map mkB) (i : Int) (mkB s)) ((Y ++ jl s (L.drop (i + 1))).map mkB) := by
  have close : ∀ ls : List (List UInt8), jl s ls = s :: jn (L.drop (i + 1)) → Evl (fun k => if Y.length < 8796093022208 then (frisketref04_Join.l0 k (L.map mkB) (Y.map mkB ++ [mkB s]) ((i + 1 : Nat) : Int)) else none) ((Y ++ jl s ls).map mkB) := by
    intro ls h
    have g := ihA (Y ++ [s]) (by rw [List.length_append, List.length_singleton]; omega) (by omega)
    rw [List.map_append, List.map_cons, List.map_nil, List.append_assoc] at g
    rw [h]
    exact Evl.pos (by omega) g
  refine Evl.succ ?_
  simp only [frisketref04_Join.l1]
  rw [List.length_map, List.length_map, wn (by omega), size_mkB]
  refine Evl.bind (odd_ev s (by omega)) (Evl.ite (fun c => Evl.ite (fun c2 => ?_) (fun c2 => ?_)) (fun c => ?_))
  · have hi1 : i + 1 < L.length := by omega
    have hpos := odd_pos c
    rw [w64 (x := (s.length : Int) - 1) (by omega) (by omega), rdOf_map L (i + 1) hi1, extract_mkB, List.drop_zero, show ((s.length : Int) - 1).toNat = s.length - 1 by omega, ← List.dropLast_eq_take, size_mkB, size_mkB, append_mkB]
    have hd := List.drop_eq_getElem_cons hi1
    rw [hd, tot] at hs
    refine Evl.pos (by omega) (Evl.pos (by omega) (Evl.pos (by omega) (Evl.pos (by rw [List.length_dropLast]; omega) ?_)))
    have g := ihB Y (s.dropLast ++ L[i + 1]) hi1 (by omega) (by rw [List.length_append, List.length_dropLast]; omega)
    rw [hd, jl, if_pos c]
    exact g
  · refine close _ ?_
    rw [(List.drop_eq_nil_of_le (by omega) : L.drop (i + 1) = []), jl, jn]
  · exact close _ (jl_no c _)
theorem rj (hL : L.length ≤ 40) : ∀ (m i : Nat), i + m = L.length →
    (∀ (Y : List (List UInt8)), Y.length ≤ i → tot (L.drop i) ≤ 1000000 → Evl (fun k => frisketref04_Join.l0 k (L.map mkB) (Y.map mkB) (i : Int)) ((Y ++ jn (L.drop i)).map mkB)) ∧
    (∀ (Y : List (List UInt8)) (s : List UInt8) (h : i < L.length), Y.length ≤ i → s.length + tot (L.drop (i + 1)) ≤ 1000000 → Evl (fun k => frisketref04_Join.l1 k (L.map mkB) (Y.map mkB) (i : Int) (mkB s)) ((Y ++ jl s (L.drop (i + 1))).map mkB))
  | 0, i, e => by
    refine ⟨fun Y hY ht => ?_, fun Y s h => absurd h (by omega)⟩
    refine Evl.succ ?_
    simp only [frisketref04_Join.l0]
    rw [List.length_map, (List.drop_eq_nil_of_le (by omega) : L.drop i = []), jn, List.append_nil]
    exact Evl.neg (by omega) (Evl.some _)
  | m + 1, i, e => by
    have hi : i < L.length := by omega
    obtain ⟨ihA, ihB⟩ := rj hL m (i + 1) (by omega)
    have B := fun Y s hY hs => rj1 L hL i hi ihA (fun Y s h h1 h2 => ihB Y s h h1 h2) Y s hY hs
    refine ⟨fun Y hY ht => ?_, fun Y s _ hY hs => B Y s hY hs⟩
    have hd := List.drop_eq_getElem_cons hi
    rw [hd, tot] at ht
    refine Evl.succ ?_
    simp only [frisketref04_Join.l0]
    rw [List.length_map, rdOf_map L i hi, hd, jn]
    exact Evl.pos (by omega) (Evl.pos (by omega) (B Y L[i] hY ht))
end
/-! ### the law -/
theorem list_l (L : List (List UInt8)) (hL : L.length ≤ 1000) : ∀ (m i : Nat), i + m = L.length → Evl (fun k => frisketlaw04_list.l0 k (L.map mkB) (L.map mkB) (i : Int)) true
  | 0, i, e => by
    refine Evl.succ ?_
    simp only [frisketlaw04_list.l0]
    rw [List.length_map]
    exact Evl.neg (by omega) (Evl.some _)
  | m + 1, i, e => by
    refine Evl.succ ?_
    simp only [frisketlaw04_list.l0]
    rw [List.length_map, wn (by omega)]
    exact Evl.pos (by omega) (Evl.pos (by omega) (Evl.pos (by omega) (Evl.pos trivial (list_l L hL m (i + 1) (by omega)))))
theorem jl_len : ∀ (ls : List (List UInt8)) (s : List UInt8), (jl s ls).length ≤ ls.length + 1
  | [], s => by simp [jl]
  | l :: ls, s => by
    rw [jl]
    split
    · have := jl_len ls (s.dropLast ++ l); simp; omega
    · have := jl_len ls l; simp; omega
theorem jn_len (ls : List (List UInt8)) : (jn ls).length ≤ ls.length := by
  cases ls with
  | nil => simp [jn]
  | cons l ls => rw [jn, List.length_cons]; exact jl_len ls l
theorem law_l (L : List (List UInt8)) (hL : L.length ≤ 40) (hb : ∀ l ∈ L, l.length ≤ 140737488351232) : ∀ (m i n : Nat), i + m = L.length → n + tot (L.drop i) = tot L → n ≤ i * 140737488351232 → Evl (fun k => frisketlaw04_ExpandJoins.l0 k (L.map mkB) (n : Int) (i : Int)) true
  | 0, i, n, e, hn, hi => by
    rw [(List.drop_eq_nil_of_le (by omega) : L.drop i = []), tot, Nat.add_zero] at hn
    refine Evl.succ ?_
    simp only [frisketlaw04_ExpandJoins.l0]
    rw [List.length_map]
    refine Evl.neg (by omega) (Evl.ite (fun c => Evl.bind (Evl.some _) (Evl.some _)) (fun c => ?_))
    have h1 := (hj L hL L.length 0 (by omega)).1 [] (by simp) (by rw [List.drop_zero]; omega)
    have h2 := (rj L hL L.length 0 (by omega)).1 [] (by simp) (by rw [List.drop_zero]; omega)
    rw [List.drop_zero, List.nil_append] at h1 h2
    have g1 : Evl (fun k => expand_Join.f k (L.map mkB)) ((jn L).map mkB) := by
      simp only [expand_Join.f]
      rw [List.length_map]
      exact h1
    have g2 : Evl (fun k => frisketref04_Join.f k (L.map mkB)) ((jn L).map mkB) := by
      simp only [frisketref04_Join.f]
      exact h2
    have g3 : Evl (fun k => frisketlaw04_list.f k ((jn L).map mkB) ((jn L).map mkB)) true := by
      simp only [frisketlaw04_list.f]
      exact Evl.pos trivial (list_l (jn L) (by have := jn_len L; omega) (jn L).length 0 (by omega))
    exact Evl.bind g1 (Evl.bind g2 (Evl.bind g3 (Evl.pos rfl (Evl.bind (Evl.some _) (Evl.some _)))))
  | m + 1, i, n, e, hn, hi => by
    have hil : i < L.length := by omega
    have hd := List.drop_eq_getElem_cons hil
    have hl := hb _ (List.getElem_mem hil)
    rw [hd, tot] at hn
    refine Evl.succ ?_
    simp only [frisketlaw04_ExpandJoins.l0]
    rw [List.length_map, rdOf_map L i hil, size_mkB, wn (by omega), w64 (x := (n : Int) + (L[i].length : Int)) (by omega) (by omega)]
    refine Evl.pos (by omega) (Evl.pos (by omega) ?_)
    have ih := law_l L hL hb m (i + 1) (n + L[i].length) (by omega) (by omega) (by omega)
    rw [Int.natCast_add] at ih
    exact ih
theorem joins_ev (L : List (List UInt8)) (hb : ∀ l ∈ L, l.length ≤ 140737488351232) : Evl (fun k => frisketlaw04_ExpandJoins.f k (L.map mkB)) true := by
  simp only [frisketlaw04_ExpandJoins.f]
  rw [List.length_map]
  refine Evl.ite (fun c => Evl.bind (Evl.some _) (Evl.some _)) (fun c => ?_)
  exact law_l L (by omega) hb L.length 0 0 (by omega) (by rw [List.drop_zero]; omega) (by omega)
theorem lists (l : List ByteArray) : l = (l.map fun s => s.data.toList).map mkB := by
  rw [List.map_map]
  conv => lhs; rw [← List.map_id l]
  exact List.map_congr_left fun s _ => mkB_data s
end Go.Proofs.YtpflnhbhgcediaaDoor.Join4
namespace Go.Proofs.YtpflnhbhgcediaaDoor.PureExpandJoins
open Go.RowKit Go.Proofs.YtpflnhbhgcediaaDoorR Go.Proofs.YtpflnhbhgcediaaDoor.QJo Go.Proofs.YtpflnhbhgcediaaDoorW.PrintWords Go.Proofs.YtpflnhbhgcediaaDoorW.PrintLast Go.Proofs.YtpflnhbhgcediaaDoor.Evl
theorem ExpandJoins (l0 : List ByteArray) (g0 : R29.good l0) : ∃ k, frisketlaw04_ExpandJoins.f k l0 = some true := by
  have h1 : ∀ x ∈ l0, x.size ≤ 140737488351232 := g0.2.2
  have e := Join4.joins_ev (l0.map fun s => s.data.toList) (by
    intro s hs
    obtain ⟨t, ht, rfl⟩ := List.mem_map.1 hs
    rw [Array.length_toList]
    exact h1 t ht)
  rw [← Join4.lists] at e
  exact Evl.out e
end Go.Proofs.YtpflnhbhgcediaaDoor.PureExpandJoins
