/- text, of two lines. -/
import Derived.Test.YtagadehcbpoihaaDoorFOwnSl
namespace Go.Proofs.YtagadehcbpoihaaDoor.Sane5
open Go.RowKit Go.Proofs.YtagadehcbpoihaaDoorW.PrintWords Go.Proofs.YtagadehcbpoihaaDoorW.PrintLast Go.Proofs.YtagadehcbpoihaaDoorW.PrintMore Go.Proofs.YtagadehcbpoihaaDoorN Go.Proofs.YtagadehcbpoihaaDoor.Str Go.Proofs.YtagadehcbpoihaaDoor.QSl
set_option linter.unusedVariables false
set_option linter.unusedSimpArgs false
/-- Two texts in a row. -/
theorem two_at {w : World} {base : Nat} {ok : Nat → Prop} {v : Value} {X Y : ByteArray} (h : Kd.R Kd.string 9 w base ok v [X, Y]) : ∃ g cap, v = .slice (some ⟨g, 0, none⟩) 2 cap ∧ (∃ cs, w.heap[g]? = some (.cells cs 9 (0, 0)) ∧ cs[0]? = some (.string X) ∧ cs[1]? = some (.string Y)) := by
  obtain ⟨A, cap, rfl⟩ := Kd.R_slice h
  have hr := Kd.R_reads' h
  obtain ⟨ad, hA, hc0⟩ := Kd.at_string hr.2.2 0 (by decide) (by simp)
  obtain ⟨ad1, hA1, hc1⟩ := Kd.at_string hr.2.2 1 (by decide) (by simp)
  subst hA
  obtain rfl := Option.some.inj hA1
  obtain ⟨g, rfl⟩ := Kd.R_head h
  obtain ⟨cs, hb⟩ := Kd.R_typed h g (by simp [Value.ownBlock])
  rw [add_at] at hc0 hc1
  rw [blk_cell hb] at hc0 hc1
  exact ⟨g, cap, rfl, cs, hb, hc0, hc1⟩
set_option maxHeartbeats 4000000 in
set_option maxRecDepth 100000 in
theorem text2 (l : List UInt8) (hl : l.length < 1000) (X Y : ByteArray) (hp : piecesL l = [X, Y]) (hX : X.size ≤ 100) (hY : Y.size ≤ 100) (w : World) :
    Calls Tryd.prog 38 #[.string (mkB l)] w fun e w' => ∃ v, e = .returned (.tuple #[v, .bool true]) ∧ (Kd.raw 5).R 34 w' w.heap.size (fun _ => True) v [ln X, ln Y] ∧ Below w.heap.size w w' := by
  have HLI := Aside0.mk (lines_calls l (by omega) w)
  rw [hp] at HLI
  obtain ⟨S, hS⟩ : ∃ S, mkB l = S := ⟨_, rfl⟩
  rw [hS] at HLI ⊢
  have f1 : decide ((2000 : Int) < (X.size : Int)) = false := decide_eq_false (by omega)
  have f2 : decide ((2000 : Int) < (Y.size : Int)) = false := decide_eq_false (by omega)
  have f3 : ((2000 : Int) < (X.size : Int)) = False := eq_false (by omega)
  have f4 : ((2000 : Int) < (Y.size : Int)) = False := eq_false (by omega)
  clear hl hp hX hY hS
  go_enter Tryd.func38, Tryd.ntmps38
  go_wp2_with (first | (go_at_call 9; refine (HLI.out).mono ?_; rintro e w2 ⟨v2, rfl, hr2, hb2⟩; obtain ⟨g, cap, rfl, cs, hg, h0, h1⟩ := two_at hr2; have G2 := Aside0.mk hg; have K0 := Aside0.mk h0; have K1 := Aside0.mk h1; have B2 := Aside0.mk hb2; clear hr2 hg h0 h1 hb2))
  go_loopg [4, 10] 3 (fun kq v4 v10 w' => Aside0 (w'.heap[g]? = some (.cells cs 9 (0, 0))) ∧ Aside0 (Below w.heap.size w w') ∧ ((Aside0 (kq = 3) ∧ v10 = .int .i64 0 ∧ v4 = .slice none 0 0) ∨ (Aside0 (kq = 2) ∧ v10 = .int .i64 1 ∧ Aside0 ((Kd.raw 5).R 34 w' w.heap.size (fun k => k ≠ g) v4 [ln X])) ∨ (Aside0 (kq = 1) ∧ v10 = .int .i64 2 ∧ Aside0 ((Kd.raw 5).R 34 w' w.heap.size (fun k => k ≠ g) v4 [ln X, ln Y]))))
  case atStart => exact ⟨G2, B2, Or.inl ⟨⟨rfl⟩, rfl, rfl⟩⟩
  case round =>
    obtain ⟨G, B, hrel⟩ := hrel
    rcases hrel with ⟨⟨rfl⟩, rfl, rfl⟩ | ⟨⟨rfl⟩, rfl, R⟩ | ⟨⟨rfl⟩, rfl, R⟩
    · have c0 : wr.cell? ⟨g, 0, none⟩ = some (.string X) := (blk_cell G.out 0).trans K0.out
      have LT := Aside0.mk (blk_lt G.out)
      go_wp2_with (first | ((with_reducible refine gate_builtin (b := .append) (xs := #[.tmp 22, .tmp 25]) rfl ?_); (try (refine gate_guard (by rfl) ?_; dsimp only)); at_builtin; refine Kd.R_append (Kd.raw 5) (w0 := w) w.heap.size rfl (.tmp 22) (.tmp 25) 35 34 (.agg #[.string ⟨#[]⟩, .bool false, .int .i64 0, .int .i64 0, .slice none 0 0]) 64 rfl Tryd.underlying35 infoL rfl raw5 p64 (.slice none 0 0) [] (ln X) (ln X) (fun k => k ≠ g) (fun _ => False) rfl rfl (rawM 5 _ _ _ _ rfl (ln_one X)) (fun _ h => h.elim) ?aF (Kd.R_nil _ _ _ _ _) B.out B.out.size (by decide) ?_; (case aF => exact fun k hk => by have := LT.out; omega); intro v5 w5 ho5 hb5 hg5 hat5; have O5 := Aside0.mk ho5; have B5 := Aside0.mk hb5; have G5 := Aside0.mk (blk_grown G.out hg5 (by simp [Value.ownBlock])); clear ho5 hb5 hg5 hat5))
      go_roundg 2
      case measure => omega
      case rel => exact ⟨G5, B5, Or.inr (Or.inl ⟨⟨rfl⟩, rfl, O5⟩)⟩
    · have c0 : wr.cell? ⟨g, 1, none⟩ = some (.string Y) := (blk_cell G.out 1).trans K1.out
      obtain ⟨A4, c4, e4⟩ := Kd.R_slice R.out
      subst e4
      have LT := Aside0.mk (blk_lt G.out)
      go_wp2_with (first | ((with_reducible refine gate_builtin (b := .append) (xs := #[.tmp 22, .tmp 25]) rfl ?_); (try (refine gate_guard (by rfl) ?_; dsimp only)); at_builtin; refine Kd.R_append (Kd.raw 5) (w0 := w) w.heap.size rfl (.tmp 22) (.tmp 25) 35 34 (.agg #[.string ⟨#[]⟩, .bool false, .int .i64 0, .int .i64 0, .slice none 0 0]) 64 rfl Tryd.underlying35 infoL rfl raw5 p64 (.slice A4 1 c4) [ln X] (ln Y) (ln Y) (fun k => k ≠ g) (fun _ => False) rfl rfl (rawM 5 _ _ _ _ rfl (ln_one Y)) (fun _ h => h.elim) ?aF R.out B.out B.out.size (by simp) ?_; (case aF => exact fun k hk => by have := LT.out; omega); intro v5 w5 ho5 hb5 hg5 hat5; have O5 := Aside0.mk ho5; have B5 := Aside0.mk hb5; have G5 := Aside0.mk (blk_grown G.out hg5 (Kd.R_away R.out (fun k hk => hk))); clear ho5 hb5 hg5 hat5))
      go_roundg 1
      case measure => omega
      case rel => exact ⟨G5, B5, Or.inr (Or.inr ⟨⟨rfl⟩, rfl, O5⟩)⟩
    · obtain ⟨A4, c4, e4⟩ := Kd.R_slice R.out
      subst e4
      go_wp2
      refine bodyPost_ret (results_tmp2 rfl _ _ _) rfl ?_
      exact ⟨_, rfl, Kd.R_mono R.out (fun _ _ => trivial), B.out⟩
end Go.Proofs.YtagadehcbpoihaaDoor.Sane5
