/- slices.IndexFunc and slices.ContainsFunc over texts, with any function value that tells yes or no and leaves what lay there. Functions 46 and 29. -/
import Derived.Test.YtegcelmjejhnfaaDoorQHyx0
import Derived.Test.YtegcelmjejhnfaaDoorFnVal
namespace Go.Proofs.YtegcelmjejhnfaaDoor.PredStrs
open Go.RowKit Go.Proofs.YtegcelmjejhnfaaDoorW.PrintWords Go.Proofs.YtegcelmjejhnfaaDoorW.PrintLast Go.Proofs.YtegcelmjejhnfaaDoorW.PrintMore Go.Proofs.YtegcelmjejhnfaaDoor.FnVal
set_option linter.unusedVariables false
set_option linter.unusedSimpArgs false
def idxFrom (p : ByteArray → Bool) : List ByteArray → Int → Int
  | [], _ => -1
  | x :: xs, i => if p x = true then i else idxFrom p xs (i + 1)
theorem drop_rd (l : List ByteArray) (i : Int) (h0 : 0 ≤ i) (h1 : i < (l.length : Int)) : l.drop i.toNat = rdOf ByteArray.empty l i :: l.drop (i + 1).toNat := by
  rw [show (i + 1).toNat = i.toNat + 1 by omega, List.drop_eq_getElem_cons (by omega : i.toNat < l.length)]
  congr 1
  unfold rdOf
  rw [List.getD_eq_getElem?_getD, List.getElem?_eq_getElem (by omega)]
  rfl
theorem rd_in (l : List ByteArray) (i : Int) (h0 : 0 ≤ i) (h1 : i < (l.length : Int)) : rdOf ByteArray.empty l i ∈ l := by
  unfold rdOf
  rw [List.getD_eq_getElem?_getD, List.getElem?_eq_getElem (by omega)]
  exact List.getElem_mem _
theorem idx_any (p : ByteArray → Bool) : ∀ (l : List ByteArray) (i : Int), 0 ≤ i → decide (0 ≤ idxFrom p l i) = l.any p
  | [], i, h => by simp [idxFrom]
  | x :: xs, i, h => by
    rw [idxFrom, List.any_cons]
    cases hx : p x
    · rw [if_neg (by simp), idx_any p xs (i + 1) (by omega)]; rfl
    · rw [if_pos rfl, decide_eq_true h]; rfl
def Tells (P : Program) (g : FuncId) (lb : Array Value) (p : ByteArray → Bool) (ok : ByteArray → Prop) (w : World) : Prop := ∀ (W : World) (x : ByteArray), ok x → Below w.heap.size w W → Calls P g (#[.string x] ++ lb) W fun e W' => e = .returned (.bool (p x)) ∧ Below W.heap.size W W'
set_option maxHeartbeats 8000000 in
set_option maxRecDepth 100000 in
theorem index_calls (g : FuncId) (lb : Array Value) (fn : Func) (p : ByteArray → Bool) (hf : Tryd.prog.funcs[g]? = some fn) (hname : (fn.name == "runtime.NumGoroutine") = false) (hb : fn.body.isSome = true) (A1 : Option Addr) (c1 : Nat) (l1 : List ByteArray) (w : World) (hr1 : Kd.C Kd.string w A1 l1.length l1) (hc1 : l1.length ≤ c1) (hl : l1.length < 4611686018427387904) (ok : ByteArray → Prop) (hok : ∀ x ∈ l1, ok x) (hp : Tells Tryd.prog g lb p ok w) :
    Calls Tryd.prog 46 #[.slice A1 l1.length c1, .func (.func g) #[] lb] w fun e w' => e = .returned (.int .i64 (idxFrom p l1 0)) ∧ Below w.heap.size w w' := by
  have HR1 := Aside0.mk hr1
  have HC1 := Aside0.mk hc1
  have HP := Aside0.mk hp
  have HK := Aside0.mk hok
  have HF := Aside0.mk hf
  have HN := Aside0.mk hname
  have HB := Aside0.mk hb
  have HL := Aside0.mk hl
  clear hr1 hc1 hp hf hname hb hl hok
  obtain ⟨R, hR⟩ : ∃ R, idxFrom p l1 0 = R := ⟨_, rfl⟩
  rw [hR]
  have H0 := Aside0.mk (show idxFrom p (l1.drop (0 : Int).toNat) 0 = R from hR)
  clear hR
  go_enter Tryd.func46, Tryd.ntmps46
  go_wp2
  go_loopg [8] (l1.length + 1) (fun kq v8 w' => ∃ (i : Int), v8 = .int .i64 i ∧ Aside0 (0 ≤ i) ∧ Aside0 (i + kq = (l1.length : Int) + 1) ∧ Aside0 (idxFrom p (l1.drop i.toNat) i = R) ∧ Aside0 (Below w.heap.size w w'))
  case atStart => exact ⟨0, rfl, ⟨Int.le_refl _⟩, ⟨by omega⟩, H0, ⟨Below.refl _ _⟩⟩
  case round =>
    clear H0
    obtain ⟨i, rfl, H1, H2, H3, HW⟩ := hrel
    have HRr := Aside0.mk (Kd.C_below HR1.out HW.out)
    by_cases c2 : i < (l1.length : Int)
    · have t2 : decide (i < (l1.length : Int)) = true := decide_eq_true c2
      have h3 := H3.out
      rw [drop_rd l1 i H1.out c2, idxFrom] at h3
      have hi0 := H1.out
      obtain ⟨ad, ea, hx⟩ := Kd.at_string HRr.out i hi0 c2
      subst ea
      have p1 : (0 ≤ i) = True := eq_true hi0
      have p2 : (i < (l1.length : Int)) = True := eq_true c2
      have H3' := Aside0.mk h3
      have HI := Aside0.mk c2
      clear h3 c2 hi0
      have HQ := Aside0.mk (HP.out wr (rdOf ByteArray.empty l1 i) (HK.out _ (rd_in l1 i H1.out HI.out)) HW.out)
      cases hb : p (rdOf ByteArray.empty l1 i)
      · have h4 := H3'.out
        rw [hb, if_neg (by simp)] at h4
        rw [hb] at HQ
        have H4 := Aside0.mk h4
        clear h4 H3'
        go_wp2_with (first | ((with_reducible refine gate_dst (N := 16) rfl ?_); refine goesV_ (some 16) rfl rfl (o := .tmp 11) rfl (f := g) (fst := #[]) (caps := lb) rfl HF.out HN.out HB.out (#[.string (rdOf ByteArray.empty l1 i)] ++ lb) (by simp [Act.eval]) ?_; refine HQ.out.mono ?_; rintro e w5 ⟨rfl, hb5⟩; refine ⟨_, rfl, ?_⟩; have W5 := Aside0.mk (HW.out.trans (hb5.mono HW.out.size)); clear hb5))
        have e1 : wrap64 (i + 1) = i + 1 := by have := HI.out; have := HL.out; have := H1.out; unfold wrap64; omega
        cases gk with
        | zero => exact absurd H2.out (by have := HI.out; omega)
        | succ k1 =>
          go_roundg k1
          case measure => omega
          case rel => exact ⟨i + 1, by rw [e1], ⟨by have := H1.out; omega⟩, ⟨by have := H2.out; omega⟩, H4, W5⟩
      · have h4 := H3'.out
        rw [hb, if_pos rfl] at h4
        rw [hb] at HQ
        subst h4
        clear H3'
        go_wp2_with (first | ((with_reducible refine gate_dst (N := 16) rfl ?_); refine goesV_ (some 16) rfl rfl (o := .tmp 11) rfl (f := g) (fst := #[]) (caps := lb) rfl HF.out HN.out HB.out (#[.string (rdOf ByteArray.empty l1 i)] ++ lb) (by simp [Act.eval]) ?_; refine HQ.out.mono ?_; rintro e w5 ⟨rfl, hb5⟩; refine ⟨_, rfl, ?_⟩; have W5 := Aside0.mk (HW.out.trans (hb5.mono HW.out.size)); clear hb5))
        go_ret
        exact ⟨rfl, W5.out⟩
    · have t2 : decide (i < (l1.length : Int)) = false := decide_eq_false c2
      have h3 := H3.out
      rw [List.drop_eq_nil_of_le (by omega), idxFrom] at h3
      subst h3
      clear c2
      go_wp2
      go_ret
      exact ⟨rfl, HW.out⟩
set_option maxHeartbeats 8000000 in
set_option maxRecDepth 100000 in
theorem contains_calls (g : FuncId) (lb : Array Value) (fn : Func) (p : ByteArray → Bool) (hf : Tryd.prog.funcs[g]? = some fn) (hname : (fn.name == "runtime.NumGoroutine") = false) (hb : fn.body.isSome = true) (A1 : Option Addr) (c1 : Nat) (l1 : List ByteArray) (w : World) (hr1 : Kd.C Kd.string w A1 l1.length l1) (hc1 : l1.length ≤ c1) (hl : l1.length < 4611686018427387904) (ok : ByteArray → Prop) (hok : ∀ x ∈ l1, ok x) (hp : Tells Tryd.prog g lb p ok w) :
    Calls Tryd.prog 29 #[.slice A1 l1.length c1, .func (.func g) #[] lb] w fun e w' => e = .returned (.bool (l1.any p)) ∧ Below w.heap.size w w' := by
  have HQ := Aside0.mk (index_calls g lb fn p hf hname hb A1 c1 l1 w hr1 hc1 hl ok hok hp)
  clear hr1 hc1 hp hf hname hb hl hok
  rw [← idx_any p l1 0 (Int.le_refl _)]
  obtain ⟨R, hR⟩ : ∃ R, idxFrom p l1 0 = R := ⟨_, rfl⟩
  rw [hR] at HQ ⊢
  clear hR
  go_enter Tryd.func29, Tryd.ntmps29
  cases hd : decide (0 ≤ R)
  · go_wp2_with (fail)
    refine HQ.out.mono ?_
    rintro e w5 ⟨rfl, hb5⟩
    have B5 := Aside0.mk hb5
    clear hb5
    go_wp2
    go_ret
    exact ⟨rfl, B5.out⟩
  · go_wp2_with (fail)
    refine HQ.out.mono ?_
    rintro e w5 ⟨rfl, hb5⟩
    have B5 := Aside0.mk hb5
    clear hb5
    go_wp2
    go_ret
    exact ⟨rfl, B5.out⟩
end Go.Proofs.YtegcelmjejhnfaaDoor.PredStrs
