/- source.Lines, walked. -/
import Derived.Test.YtagadehcbpoihaaDoorQSlx0
import Derived.Test.YtagadehcbpoihaaDoorLay
import Derived.Test.YtagadehcbpoihaaDoorSplitAll
namespace Go.Proofs.YtagadehcbpoihaaDoor.QSl
open Go.RowKit Go.Proofs.YtagadehcbpoihaaDoorW.PrintWords Go.Proofs.YtagadehcbpoihaaDoorW.PrintLast Go.Proofs.YtagadehcbpoihaaDoorW.PrintMore Go.Proofs.YtagadehcbpoihaaDoorN Go.Proofs.YtagadehcbpoihaaDoor.Str Go.Proofs.YtagadehcbpoihaaDoor.Lines5
set_option linter.unusedVariables false
set_option linter.unusedSimpArgs false
theorem trim_eq (l : List UInt8) : Lib.trimSuffix l [10] = trim l := by
  unfold Lib.trimSuffix trim
  by_cases h : l.getLast? = some 10
  · have hs : Lib.hasSuffix l [10] = true := by
      obtain ⟨ys, rfl⟩ := List.getLast?_eq_some_iff.1 h
      simp [Lib.hasSuffix]
    rw [hs, if_pos rfl, if_pos h, List.dropLast_eq_take]
    rfl
  · have hs : Lib.hasSuffix l [10] = false := by
      refine Bool.eq_false_iff.2 (fun e => h ?_)
      unfold Lib.hasSuffix at e
      simp at e
      obtain ⟨ys, rfl⟩ := e
      simp
    rw [hs, if_neg (by decide), if_neg h]
def piecesL (l : List UInt8) : List ByteArray := if l = [] then [] else (spl ((trim l).count 10) (trim l)).map mkB
set_option maxHeartbeats 2000000 in
set_option maxRecDepth 100000 in
theorem lines_calls (l : List UInt8) (hl : l.length < 1000000) (w : World) : Calls Tryd.prog 9 #[.string (mkB l)] w fun e w' => ∃ v0_ : Value, e = .returned (v0_) ∧ Kd.R Kd.string 9 w' w.heap.size (fun _ => True) v0_ (piecesL l) ∧ Below w.heap.size w w' := by
  obtain ⟨S, hS⟩ : ∃ S, mkB l = S := ⟨_, rfl⟩
  have hT : (trim l).length ≤ l.length := by
    unfold trim
    split
    · rw [List.length_dropLast]; omega
    · exact Nat.le_refl _
  have HT := Aside0.mk (fun W => Any.strings_TrimSuffix Lay.l102 S (⟨#[10]⟩ : ByteArray) W (by rw [← hS, size_mkB]; omega))
  have HTV := Aside0.mk (show (⟨(Lib.trimSuffix S.data.toList (⟨#[10]⟩ : ByteArray).data.toList).toArray⟩ : ByteArray) = mkB (trim l) by rw [← hS, data_mkB]; show mkB (Lib.trimSuffix l [10]) = _; rw [trim_eq])
  have HS := Aside0.mk (fun W => SplitAll.split_row Lay.l146 (by kernel_rfl) (trim l) W (by omega))
  unfold piecesL
  by_cases h0 : l = []
  · have he : S.toList.isEmpty = true := by rw [← hS, toList_mkB, h0]; rfl
    rw [hS, if_pos h0]
    clear hS hT h0 hl
    go_enter Tryd.func9, Tryd.ntmps9
    go_wp2
    refine bodyPost_ret (results_tmp rfl _ _ _) rfl ?_
    exact ⟨_, rfl, Kd.R_nil _ _ _ _ _, Below.refl _ _⟩
  · have he : S.toList.isEmpty = false := by
      rw [← hS, toList_mkB]
      cases l with
      | nil => exact absurd rfl h0
      | cons a l => rfl
    rw [hS, if_neg h0]
    clear hS hT h0 hl
    go_enter Tryd.func9, Tryd.ntmps9
    go_wp2_with (first | (go_at_call 30; refine (HT.out _).mono ?_; rw [HTV.out]; rintro e w2 ⟨rfl, rfl⟩) | (go_at_call 29; refine (HS.out _).mono ?_; rintro e w3 ⟨v3, rfl, hr3, hb3⟩; have R3 := Aside0.mk hr3; have B3 := Aside0.mk hb3; clear hr3 hb3))
    refine bodyPost_ret (results_tmp rfl _ _ _) rfl ?_
    exact ⟨_, rfl, R3.out, B3.out⟩
def source_Lines.f (a0 : ByteArray) : Option (List ByteArray) := if a0.size < 1000000 then some (piecesL a0.data.toList) else none
theorem source_Lines.calls (a0 : ByteArray) (r : List ByteArray) (w : World) (h : source_Lines.f a0 = some r) :
    Calls Tryd.prog 9 #[.string a0] w fun e w' => ∃ v0_ : Value, e = .returned (v0_) ∧ Kd.R Kd.string 9 w' w.heap.size (fun _ => True) v0_ r ∧ Below w.heap.size w w' := by
  unfold source_Lines.f at h
  split at h
  · rename_i hc
    obtain rfl := Option.some.inj h
    have g := lines_calls a0.data.toList (by rw [Array.length_toList]; exact hc) w
    rw [← mkB_data] at g
    exact g
  · cases h
end Go.Proofs.YtagadehcbpoihaaDoor.QSl
