/- What ExpandTells' printed functions call: At, WidthAt, Protect, Plain, the fixed example; Names is a stub as yet. -/
import Derived.Test.YtpflnhbhgcediaaDoorQTex0
import Derived.Test.YtpflnhbhgcediaaDoorFAtEa
import Derived.Test.YtpflnhbhgcediaaDoorFPlainEa
import Derived.Test.YtpflnhbhgcediaaDoorFNamesEa
import Derived.Test.YtpflnhbhgcediaaDoorQEax3
import Derived.Test.YtpflnhbhgcediaaDoorQBkx1
import Derived.Test.YtpflnhbhgcediaaDoorFSaneCEx
namespace Go.Proofs.YtpflnhbhgcediaaDoor.QTe
open Go.RowKit Go.Proofs.YtpflnhbhgcediaaDoorW.PrintWords Go.Proofs.YtpflnhbhgcediaaDoorW.PrintLast Go.Proofs.YtpflnhbhgcediaaDoorW.PrintMore Go.Proofs.YtpflnhbhgcediaaDoor.Str
set_option linter.unusedVariables false
def frisketref04_At.f (a0 : ByteArray) : Option (Int × ByteArray × Int × Int × Bool) := if a0.size < 1000000000 then some (Ask4.atV a0.data.toList) else none
theorem frisketref04_At.calls (a0 : ByteArray) (r1 : Int) (r2 : ByteArray) (r3 : Int) (r4 : Int) (r5 : Bool) (w : World) (h : frisketref04_At.f a0 = some (r1, r2, r3, r4, r5)) :
    Calls Tryd.prog 42 #[.string a0] w fun e w' => e = .returned (.tuple #[.agg #[.int .u8 r1, .string r2, .int .i64 r3, .int .i64 r4], .bool r5]) ∧ Below w.heap.size w w' := by
  unfold frisketref04_At.f at h
  split at h
  · rename_i hc
    have hv := Option.some.inj h
    have g := Ask4.at_exact a0.data.toList (by rw [Array.length_toList]; exact hc) w
    rw [hv, ← mkB_data] at g
    exact g
  · cases h
def frisketref04_WidthAt.f (k : Nat) (a0 : ByteArray) : Option (ByteArray × Int) := QEa.frisketref04_WidthAt.f k a0
theorem frisketref04_WidthAt.mono (a0 : ByteArray) (k : Nat) : LeO (frisketref04_WidthAt.f k a0) (frisketref04_WidthAt.f (k + 1) a0) := QEa.frisketref04_WidthAt.mono a0 k
theorem frisketref04_WidthAt.calls (k : Nat) (a0 : ByteArray) (r1 : ByteArray) (r2 : Int) (w : World) (h : frisketref04_WidthAt.f k a0 = some (r1, r2)) :
    Calls Tryd.prog 41 #[.string a0] w fun e w' => e = .returned (.tuple #[.string r1, .int .i64 r2]) ∧ Drawn0 w w' := QEa.frisketref04_WidthAt.calls k a0 r1 r2 w h
def expand_Protect.f (a0 : ByteArray) : Option (ByteArray × Int) := QBk.expand_Protect.f a0
theorem expand_Protect.calls (a0 : ByteArray) (r1 : ByteArray) (r2 : Int) (w : World) (h : expand_Protect.f a0 = some (r1, r2)) :
    Calls Tryd.prog 8 #[.string a0] w fun e w' => e = .returned (.tuple #[.string r1, .int .i64 r2]) ∧ Below w.heap.size w w' := QBk.expand_Protect.calls a0 r1 r2 w h
def expand_Plain.f (a0 : ByteArray) : Option Bool := if a0.size < 1000000 then some (Plain4.plainB a0.data.toList) else none
theorem expand_Plain.calls (a0 : ByteArray) (r : Bool) (w : World) (h : expand_Plain.f a0 = some r) :
    Calls Tryd.prog 23 #[.string a0] w fun e w' => e = .returned (.bool r) ∧ Below w.heap.size w w' := by
  unfold expand_Plain.f at h
  split at h
  · rename_i hc
    obtain rfl := Option.some.inj h
    have g := Plain4.plain_calls a0.data.toList (by rw [Array.length_toList]; exact hc) w
    rw [← mkB_data] at g
    exact g
  · cases h
def expand_Names.f (a0 : ByteArray) : Option (List ByteArray) := if a0.size < 1000000 then some (Names4.nmB (a0.size + 1) a0.data.toList) else none
theorem expand_Names.calls (a0 : ByteArray) (r : List ByteArray) (w : World) (h : expand_Names.f a0 = some r) :
    Calls Tryd.prog 25 #[.string a0] w fun e w' => ∃ v0_ : Value, e = .returned (v0_) ∧ Kd.R Kd.string 9 w' w.heap.size (fun _ => True) v0_ r ∧ Below w.heap.size w w' := by
  unfold expand_Names.f at h
  split at h
  · rename_i hc
    obtain rfl := Option.some.inj h
    have g := Names4.names_calls (a0.size + 1) a0.data.toList (by rw [Array.length_toList]; exact Nat.lt_succ_self _) (by rw [Array.length_toList]; exact hc) w
    rw [← mkB_data] at g
    exact g
  · cases h
def frisketlaw04_sane.f : Option Bool := some true
theorem frisketlaw04_sane.calls (r : Bool) (w : World) (h : frisketlaw04_sane.f = some r) :
    Calls Tryd.prog 7 #[] w fun e w' => e = .returned (.bool r) ∧ Below w.heap.size w w' := by
  obtain rfl := Option.some.inj h
  exact Sane4.sane_calls w
end Go.Proofs.YtpflnhbhgcediaaDoor.QTe
