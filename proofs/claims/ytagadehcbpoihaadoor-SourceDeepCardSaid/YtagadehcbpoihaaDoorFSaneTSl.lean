/- The fixed example of chapter 5: a text's lines as rows of five cells. -/
import Derived.Test.YtagadehcbpoihaaDoorFLinesSl
import Derived.Test.YtagadehcbpoihaaDoorWApart
import Derived.Lib.SliceRun
namespace Go.Proofs.YtagadehcbpoihaaDoor.Sane5
open Go.RowKit Go.Proofs.YtagadehcbpoihaaDoorW.PrintWords Go.Proofs.YtagadehcbpoihaaDoorW.PrintLast Go.Proofs.YtagadehcbpoihaaDoorW.PrintMore Go.Proofs.YtagadehcbpoihaaDoorN Go.Proofs.YtagadehcbpoihaaDoor.Str Go.Proofs.YtagadehcbpoihaaDoor.Lines5
set_option linter.unusedVariables false
set_option linter.unusedSimpArgs false
/-- A line of text: five cells. -/
def ln (x : ByteArray) : List Value := [.string x, .bool false, .int .i64 0, .int .i64 0, .slice none 0 0]
theorem rawM (n : Nat) (w : World) (base : Nat) (ok : Nat → Prop) (c : List Value) (h : c.length = n) (h1 : ∀ u ∈ c, u.oneCell' = true) : (Kd.raw n).M w base ok c c := ⟨rfl, h, h1⟩
theorem ln_one (x : ByteArray) : ∀ u ∈ ln x, u.oneCell' = true := by
  intro u hu
  simp only [ln, List.mem_cons, List.not_mem_nil, or_false] at hu
  rcases hu with rfl | rfl | rfl | rfl | rfl <;> rfl
theorem infoL : (Tryd.prog.info? 34).map (fun i => (i.zero, i.size, i.bytes)) = some (some (.agg #[.string ⟨#[]⟩, .bool false, .int .i64 0, .int .i64 0, .slice none 0 0]), 5, 64) := by kernel_rfl
theorem raw5 : 0 < (Kd.raw 5).sz := by decide
theorem p64 : 0 < 64 := by decide
end Go.Proofs.YtagadehcbpoihaaDoor.Sane5
