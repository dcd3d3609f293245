/- good, of one line of text; File and Macro of the fixed example; the example. -/
import Derived.Test.YtagadehcbpoihaaDoorFNextBSl
import Derived.Test.YtagadehcbpoihaaDoorFNextCSl
import Derived.Test.YtagadehcbpoihaaDoorFnVal
namespace Go.Proofs.YtagadehcbpoihaaDoor.Sane5
open Go.RowKit Go.Proofs.YtagadehcbpoihaaDoorW.PrintWords Go.Proofs.YtagadehcbpoihaaDoorW.PrintLast Go.Proofs.YtagadehcbpoihaaDoorW.PrintMore Go.Proofs.YtagadehcbpoihaaDoorN Go.Proofs.YtagadehcbpoihaaDoor.Str Go.Proofs.YtagadehcbpoihaaDoor.QSl Go.Proofs.YtagadehcbpoihaaDoor.FnVal
set_option linter.unusedVariables false
set_option linter.unusedSimpArgs false
set_option maxHeartbeats 2000000 in
set_option maxRecDepth 100000 in
theorem bad1 (x : ByteArray) (hx : x.size ≤ 100) (h10 : decide (0 ≤ Lib.indexByte x.data.toList 10) = false) (w : World) : Calls Tryd.prog 63 #[.agg (ln x).toArray] w fun e w' => e = .returned (.bool false) ∧ Below w.heap.size w w' := by
  have f1 : decide ((2000 : Int) < (x.size : Int)) = false := decide_eq_false (by omega)
  have f2 : ((2000 : Int) < (x.size : Int)) = False := eq_false (by omega)
  have HC := Aside0.mk (fun W => Any.strings_Contains_one Lay.l144 x 10 W)
  rw [h10] at HC
  have hu34 := Tryd.underlying34
  clear hx h10
  go_enter Tryd.func63, Tryd.ntmps63
  go_wp2_with (first | ((with_reducible refine gate_dst (N := 1) rfl ?_); refine box_event ?hg (N := 1) ?hd (cs := (ln x).toArray) (t := 34) ?hr ?_; (case hd => rfl); (case hg => rfl); (case hr => first | (go_simp; done) | (go_simp; rfl)); intro gb hg w3 hbox hb; have B3 := Aside0.mk hb; have k0 : w3.cell? ⟨gb, 0, none⟩ = some (.string x) := (blk_cell hbox 0).trans rfl; have k1 : w3.cell? ⟨gb, 1, none⟩ = some (.bool false) := (blk_cell hbox 1).trans rfl; have k2 : w3.cell? ⟨gb, 2, none⟩ = some (.int .i64 0) := (blk_cell hbox 2).trans rfl; have k3 : w3.cell? ⟨gb, 3, none⟩ = some (.int .i64 0) := (blk_cell hbox 3).trans rfl; have k4 : w3.cell? ⟨gb, 4, none⟩ = some (.slice none 0 0) := (blk_cell hbox 4).trans rfl; clear hbox hb hg) | (go_at_call 64; refine (HC.out _).mono ?_; rintro e w4 ⟨rfl, rfl⟩))
  refine bodyPost_ret (results_tmp rfl _ _ _) rfl ?_
  exact ⟨rfl, B3.out⟩
set_option maxHeartbeats 2000000 in
set_option maxRecDepth 100000 in
theorem index1 (g c : Nat) (x : ByteArray) (hx : x.size ≤ 100) (h10 : decide (0 ≤ Lib.indexByte x.data.toList 10) = false) (w : World) (hC : (Kd.raw 5).C w (some ⟨g, 0, none⟩) 1 [ln x]) : Calls Tryd.prog 83 #[.slice (some ⟨g, 0, none⟩) 1 c, .func (.func 63) #[] #[]] w fun e w' => e = .returned (.int .i64 (-1)) ∧ Below w.heap.size w w' := by
  have HB := Aside0.mk (bad1 x hx h10 w)
  have hu34 := Tryd.underlying34
  have hc : ∀ i u, (ln x)[i]? = some u → w.cell? ⟨g, i, none⟩ = some u := by
    intro i u hu
    obtain ⟨ad, ha, hc⟩ := hC.2.2 (by decide)
    obtain rfl := Option.some.inj ha
    obtain ⟨c2, hl, hK, hcell⟩ := hc 0 (ln x) rfl
    obtain rfl : c2 = ln x := hK.1
    have h5 := hcell i u hu
    rw [add_at, Nat.zero_mul, Nat.zero_add, Nat.zero_add] at h5
    exact h5
  have c0 := hc 0 _ rfl
  have c1 := hc 1 _ rfl
  have c2 := hc 2 _ rfl
  have c3 := hc 3 _ rfl
  have c4 := hc 4 _ rfl
  clear hx h10 hC hc
  go_enter Tryd.func83, Tryd.ntmps83
  go_wp2
  go_loopg [8] 2 (fun kq v8 w' => (Aside0 (kq = 2) ∧ v8 = .int .i64 0 ∧ w' = w) ∨ (Aside0 (kq = 1) ∧ v8 = .int .i64 1 ∧ Aside0 (Below w.heap.size w w')))
  case atStart => exact Or.inl ⟨⟨rfl⟩, rfl, rfl⟩
  case round =>
    rcases hrel with ⟨⟨rfl⟩, rfl, rfl⟩ | ⟨⟨rfl⟩, rfl, B⟩
    · go_wp2_with (first | (go_at_call 63; refine (HB.out).mono ?_; rintro e w5 ⟨rfl, hb5⟩; have B5 := Aside0.mk hb5; clear hb5))
      go_roundg 1
      case measure => omega
      case rel => exact Or.inr ⟨⟨rfl⟩, rfl, B5⟩
    · go_wp2
      refine bodyPost_ret (results_tmp rfl _ _ _) rfl ?_
      exact ⟨rfl, B.out⟩
set_option maxHeartbeats 2000000 in
set_option maxRecDepth 100000 in
theorem has1 (g c : Nat) (x : ByteArray) (hx : x.size ≤ 100) (h10 : decide (0 ≤ Lib.indexByte x.data.toList 10) = false) (w : World) (hC : (Kd.raw 5).C w (some ⟨g, 0, none⟩) 1 [ln x]) : Calls Tryd.prog 62 #[.slice (some ⟨g, 0, none⟩) 1 c, .func (.func 63) #[] #[]] w fun e w' => e = .returned (.bool false) ∧ Below w.heap.size w w' := by
  have HI := Aside0.mk (index1 g c x hx h10 w hC)
  clear hx h10 hC
  go_enter Tryd.func62, Tryd.ntmps62
  go_wp2_with (first | (go_at_call 83; refine (HI.out).mono ?_; rintro e w5 ⟨rfl, hb5⟩; have B5 := Aside0.mk hb5; clear hb5))
  refine bodyPost_ret (results_tmp rfl _ _ _) rfl ?_
  exact ⟨rfl, B5.out⟩
set_option maxHeartbeats 2000000 in
set_option maxRecDepth 100000 in
theorem good1 (g c : Nat) (x : ByteArray) (hx : x.size ≤ 100) (h10 : decide (0 ≤ Lib.indexByte x.data.toList 10) = false) (w : World) (hC : (Kd.raw 5).C w (some ⟨g, 0, none⟩) 1 [ln x]) : Calls Tryd.prog 33 #[.slice (some ⟨g, 0, none⟩) 1 c] w fun e w' => e = .returned (.bool true) ∧ Below w.heap.size w w' := by
  have HI := Aside0.mk (has1 g c x hx h10 w hC)
  clear hx h10 hC
  go_enter Tryd.func33, Tryd.ntmps33
  go_wp2_with (first | (go_at_call 62; refine (HI.out).mono ?_; rintro e w5 ⟨rfl, hb5⟩; have B5 := Aside0.mk hb5; clear hb5))
  refine bodyPost_ret (results_tmp rfl _ _ _) rfl ?_
  exact ⟨rfl, B5.out⟩
set_option maxHeartbeats 2000000 in
set_option maxRecDepth 100000 in
theorem named1 (s : ByteArray) (h1 : s.toList.isEmpty = false) (h2 : s.size ≤ 100) (w : World) : Calls Tryd.prog 32 #[.string s] w fun e w' => e = .returned (.bool true) ∧ w' = w := by
  have f1 : decide ((s.size : Int) ≤ 100) = true := decide_eq_true (by omega)
  have f2 : ((s.size : Int) ≤ 100) = True := eq_true (by omega)
  clear h2
  go_enter Tryd.func32, Tryd.ntmps32
  go_wp2
  refine bodyPost_ret (results_tmp rfl _ _ _) rfl ?_
  exact ⟨rfl, rfl⟩
end Go.Proofs.YtagadehcbpoihaaDoor.Sane5
