/- own, of one line of text. -/
import Derived.Test.YtagadehcbpoihaaDoorFCloneSl
namespace Go.Proofs.YtagadehcbpoihaaDoor.Sane5
open Go.RowKit Go.Proofs.YtagadehcbpoihaaDoorW.PrintWords Go.Proofs.YtagadehcbpoihaaDoorW.PrintLast Go.Proofs.YtagadehcbpoihaaDoorW.PrintMore Go.Proofs.YtagadehcbpoihaaDoorN Go.Proofs.YtagadehcbpoihaaDoor.Str
set_option linter.unusedVariables false
set_option linter.unusedSimpArgs false
theorem set_id {cs : Array Value} {i : Nat} {u : Value} (h : cs[i]? = some u) : cs.setIfInBounds i u = cs := by
  apply Array.ext_getElem?
  intro j
  rw [Array.getElem?_setIfInBounds]
  split
  · rename_i e
    subst e
    split
    · exact h.symm
    · rename_i hs
      rw [Array.getElem?_eq_none (by omega)] at h
      cases h
  · rfl
section
variable {e base : Nat} {ok : Nat → Prop} {w : World} {v : Value} {rows : List (List Value)}
theorem raw_kept {w2 : World} (h : (Kd.raw 5).R e w base ok v rows) (hm : ∀ k, v.ownBlock = some k → w2.heap[k]? = w.heap[k]?) : (Kd.raw 5).R e w2 base ok v rows :=
  Kd.R_mono (Kd.R_move (Kd.R_tight rfl h) (fun k hk => hm k hk.symm)) (fun k hk => h.1 k hk.symm)
/-- A cell that is written as it was. -/
theorem raw_same {g i : Nat} {u : Value} (h : (Kd.raw 5).R e w base ok v rows) (hg : v.ownBlock = some g) (hc : w.cell? ⟨g, i, none⟩ = some u) : (Kd.raw 5).R e (w.setCell ⟨g, i, none⟩ u) base ok v rows := by
  refine raw_kept h (fun k hk => ?_)
  obtain rfl : g = k := Option.some.inj (hg.symm.trans hk)
  obtain ⟨cs, hb⟩ := Kd.R_typed h g hg
  rw [blk_cell hb i] at hc
  rw [blk_put hb i u (set_id hc), hb]
/-- Where a row lies, and its cells. -/
theorem raw_at (h : (Kd.raw 5).R e w base ok v rows) (hne : rows ≠ []) : ∃ g cap, v = .slice (some ⟨g, 0, none⟩) rows.length cap ∧ base ≤ g ∧ g < w.heap.size ∧ rows.length ≤ cap ∧ (Kd.raw 5).C w (some ⟨g, 0, none⟩) rows.length rows ∧ (∃ cs, w.heap[g]? = some (.cells cs e (0, 0))) ∧
    ∀ j c, rows[j]? = some c → ∀ i u, c[i]? = some u → w.cell? ⟨g, j * 5 + i, none⟩ = some u ∧ w.frozen? ⟨g, j * 5 + i, none⟩ = false := by
  obtain ⟨A, cap, rfl⟩ := Kd.R_slice h
  have hr := Kd.R_reads' h
  have hpos : 0 < rows.length := List.length_pos_iff.2 hne
  obtain ⟨ad, hA, hcell⟩ := hr.2.2.2.2 hpos
  subst hA
  obtain ⟨g, rfl⟩ := Kd.R_head h
  have hown : (Value.slice (some ⟨g, 0, none⟩) rows.length cap).ownBlock = some g := by simp [Value.ownBlock]
  have hty := Kd.R_typed h g hown
  refine ⟨g, cap, rfl, Kd.R_base h g hown, Kd.R_lt h g hown, hr.2.1, hr.2.2, hty, fun j c hj i u hu => ⟨?_, ?_⟩⟩
  · obtain ⟨c2, hl, hK, hc2⟩ := hcell j c hj
    obtain rfl : c2 = c := hK.1
    have := hc2 i u hu
    rw [add_at, Nat.zero_add] at this
    exact this
  · obtain ⟨cs, hb⟩ := hty
    exact blk_frozen hb _
end
set_option maxHeartbeats 4000000 in
set_option maxRecDepth 100000 in
theorem own1 (ad : Addr) (c : Nat) (x : ByteArray) (w : World) (hr : (Kd.raw 5).C w (some ad) 1 [ln x]) :
    Calls Tryd.prog 35 #[.slice (some ad) 1 c] w fun e w' => ∃ v, e = .returned v ∧ (Kd.raw 5).R 34 w' w.heap.size (fun _ => True) v [ln x] ∧ Below w.heap.size w w' := by
  have HC := Aside0.mk (clone65 ad 1 c [ln x] w hr (by decide))
  clear hr
  go_enter Tryd.func35, Tryd.ntmps35
  go_wp2_with (first | (go_at_call 65; refine (HC.out).mono ?_; rintro e w3 ⟨v3, rfl, hr3, hb3⟩; obtain ⟨g, cap, rfl, hbg, hlt, hle, hC3, hty, hcells⟩ := raw_at hr3 (by simp); have R3 := Aside0.mk hr3; have B3 := Aside0.mk hb3; have G3 := Aside0.mk hbg; have c4 : w3.cell? ⟨g, 4, none⟩ = some (.slice none 0 0) := (hcells 0 (ln x) rfl 4 _ rfl).1; have z4 : w3.frozen? ⟨g, 4, none⟩ = false := (hcells 0 (ln x) rfl 4 _ rfl).2; clear hr3 hb3 hbg hlt hle hC3 hty hcells))
  have R4 := Aside0.mk (raw_same R3.out (by simp [Value.ownBlock]) c4)
  go_loopg [10] 2 (fun kq v10 w' => (Aside0 (kq = 2) ∧ v10 = .int .i64 0 ∧ w' = w3) ∨ (Aside0 (kq = 1) ∧ v10 = .int .i64 1 ∧ w' = w3.setCell ⟨g, 4, none⟩ (.slice none 0 0)))
  case atStart => exact Or.inl ⟨⟨rfl⟩, rfl, rfl⟩
  case round =>
    rcases hrel with ⟨⟨rfl⟩, rfl, rfl⟩ | ⟨⟨rfl⟩, rfl, rfl⟩
    · go_wp2_with (first | (go_at_call 66; refine (clone66_nil _).mono ?_; rintro e w5 ⟨rfl, rfl⟩))
      go_loopg [29] 1 (fun kq v29 w' => v29 = .int .i64 0 ∧ w' = w5.setCell ⟨g, 4, none⟩ (.slice none 0 0))
      case atStart => exact ⟨rfl, rfl⟩
      case round =>
        obtain ⟨rfl, rfl⟩ := hrel
        go_wp2
        go_roundg 1
        case measure => omega
        case rel => exact Or.inr ⟨⟨rfl⟩, rfl, rfl⟩
    · go_wp2
      refine bodyPost_ret (results_tmp rfl _ _ _) rfl ?_
      exact ⟨_, rfl, R4.out, B3.out.setCell G3.out _⟩
end Go.Proofs.YtagadehcbpoihaaDoor.Sane5
