/- '==' of arrays of a fixed size, element by element, as one Bool. -/
import Derived.Test.YtagadehcbpoihaaDoorWEqStruct
import Derived.ChangeKeysEq
import Derived.KernelRfl
namespace Go.Proofs.YtagadehcbpoihaaDoorA
open Go.RowKit
section
variable {P : Program} {d n : Nat} {e : TypeId} {xs ys : Array Value} {i : Nat} {is : List Nat} {a b : Value} {r s : Bool} {w : World}
theorem eqi_nil : (Op.eqItems d e n xs ys []).run P w = .ok true w := by simp [Op.eqItems]
theorem eqi_cons (ha : (part e xs (i * n)).run P w = .ok a w) (hb : (part e ys (i * n)).run P w = .ok b w) (he : (Op.equalIn d e a b).run P w = .ok r w) (hr : (Op.eqItems d e n xs ys is).run P w = .ok s w) : (Op.eqItems d e n xs ys (i :: is)).run P w = .ok (r && s) w := by
  rw [Op.eqItems]
  simp only [Sem.run_bind, ha, hb, he, Result.andThen_ok]
  cases r
  · simp
  · simpa using hr
theorem eqi_last (ha : (part e xs (i * n)).run P w = .ok a w) (hb : (part e ys (i * n)).run P w = .ok b w) (he : (Op.equalIn d e a b).run P w = .ok r w) : (Op.eqItems d e n xs ys [i]).run P w = .ok r w := by
  have h := eqi_cons ha hb he (eqi_nil (d := d) (e := e) (n := n) (xs := xs) (ys := ys) (w := w))
  rwa [Bool.and_true] at h
theorem eqB_of {t : TypeId} {m c : Nat} {inf : TypeInfo} (hu : P.underlying t = some (.array m e)) (hi : P.info? e = some inf) (hc : P.cellsOf e = c) (h : (Op.eqItems d e c xs ys (List.range m)).run P w = .ok r w) : (Op.equalIn (d + 1) t (.agg xs) (.agg ys)).run P w = .ok r w := by
  rw [Go.run_equalIn_array (P := P) w d xs ys hu hi, hc]
  exact h
end
end Go.Proofs.YtagadehcbpoihaaDoorA
