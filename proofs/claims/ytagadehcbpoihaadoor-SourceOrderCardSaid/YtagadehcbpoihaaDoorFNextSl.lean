/- none, done, named; a store into a frame; Next, of a frame that is not at its end. -/
import Derived.Test.YtagadehcbpoihaaDoorFPush1Sl
namespace Go.Proofs.YtagadehcbpoihaaDoor.Sane5
open Go.RowKit Go.Proofs.YtagadehcbpoihaaDoorW.PrintWords Go.Proofs.YtagadehcbpoihaaDoorW.PrintLast Go.Proofs.YtagadehcbpoihaaDoorW.PrintMore Go.Proofs.YtagadehcbpoihaaDoorN Go.Proofs.YtagadehcbpoihaaDoor.Str Go.Proofs.YtagadehcbpoihaaDoor.QSl
set_option linter.unusedVariables false
set_option linter.unusedSimpArgs false
set_option maxHeartbeats 2000000 in
set_option maxRecDepth 100000 in
theorem none_calls (sb : Nat) (v : Value) (w : World) (h : w.heap[sb]? = some (.cells #[v, .bool true] 56 (0, 0))) : Calls Tryd.prog 31 #[.pointer (some ⟨sb, 0, none⟩)] w fun e w' => e = .returned (.bool false) ∧ w' = w := by
  have h1 : w.cell? ⟨sb, 1, none⟩ = some (.bool true) := (blk_cell h 1).trans rfl
  clear h
  go_enter Tryd.func31, Tryd.ntmps31
  go_wp2
  refine bodyPost_ret (results_tmp rfl _ _ _) rfl ?_
  exact ⟨rfl, rfl⟩
set_option maxHeartbeats 2000000 in
set_option maxRecDepth 100000 in
theorem done_calls (k : Int) (nm : ByteArray) (A : Option Addr) (m c : Nat) (at_ : Int) (args : Value) (hargs : ∃ A n c, args = .slice A n c) (b : Bool) (hb : decide ((m : Int) ≤ at_) = b) (w : World) :
    Calls Tryd.prog 37 #[.agg (fr k nm (.slice A m c) at_ args).toArray] w fun e w' => e = .returned (.bool b) ∧ Below w.heap.size w w' := by
  obtain ⟨A4, n4, c4, rfl⟩ := hargs
  have hu68 := Tryd.underlying68
  go_enter Tryd.func37, Tryd.ntmps37
  go_wp2_with (first | ((with_reducible refine gate_dst (N := 1) rfl ?_); refine box_event ?hg (N := 1) ?hd (cs := (fr k nm (.slice A m c) at_ (.slice A4 n4 c4)).toArray) (t := 68) ?hr ?_; (case hd => rfl); (case hg => rfl); (case hr => first | (go_simp; done) | (go_simp; rfl)); intro gb hg w3 hbox hb; have B3 := Aside0.mk hb; have k2 : w3.cell? ⟨gb, 2, none⟩ = some (.slice A m c) := (blk_cell hbox 2).trans rfl; have k3 : w3.cell? ⟨gb, 3, none⟩ = some (.int .i64 at_) := (blk_cell hbox 3).trans rfl; clear hbox hb hg))
  refine bodyPost_ret (results_tmp rfl _ _ _) rfl ?_
  exact ⟨rfl, B3.out⟩
/-- A frame's own place is written. -/
theorem raw_put {e base g cap : Nat} {ok : Nat → Prop} {w : World} {rows : List (List Value)} (h : (Kd.raw 5).R e w base ok (.slice (some ⟨g, 0, none⟩) rows.length cap) rows) (i : Nat) (k : Int) (nm : ByteArray) (L : Value) (at_ at2 : Int) (args : Value) (hi : rows[i]? = some (fr k nm L at_ args)) (hL : L.oneCell' = true) (ha : args.oneCell' = true) :
    (Kd.raw 5).R e (w.setCell ⟨g, i * 5 + 3, none⟩ (.int .i64 at2)) base ok (.slice (some ⟨g, 0, none⟩) rows.length cap) (rows.set i (fr k nm L at2 args)) := by
  obtain ⟨hil, hie⟩ := List.getElem?_eq_some_iff.1 hi
  obtain ⟨g2, cap2, hv, _, _, _, _, _, hc⟩ := raw_at h (fun e => by rw [e] at hil; exact absurd hil (Nat.not_lt_zero _))
  injection hv with hv1 hv2 hv3
  injection hv1 with hv1
  injection hv1 with hv1 _ _
  subst hv1
  have h2 := Kd.R_seg (okp := fun _ => False) h (i : Int) (by omega) (by omega) (c := fr k nm L at_ args) (seg := [.int .i64 at2]) (j := 3) rfl (fun j u hu => (hc i _ hi j u hu).1) (show 3 + 1 ≤ 5 by decide) (x' := fr k nm L at2 args) (rawM 5 _ _ _ _ rfl (by
    intro u hu
    simp only [fr, List.mem_cons, List.not_mem_nil, or_false] at hu
    rcases hu with rfl | rfl | rfl | rfl | rfl
    · rfl
    · rfl
    · exact hL
    · rfl
    · exact ha)) (fun _ hk => hk.elim)
  exact h2.1
end Go.Proofs.YtagadehcbpoihaaDoor.Sane5
