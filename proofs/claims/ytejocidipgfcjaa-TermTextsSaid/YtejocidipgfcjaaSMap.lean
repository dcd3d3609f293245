/- A map of the call's own whose keys are strings, told by the list of its entries in the order in which they were laid: a new key is laid at the end, an old key's value is put in its place, a smLook-up finds the first (and only) entry. -/
import Derived.Test.YtejocidipgfcjaaWWords
import Derived.MapKept
import Derived.Maps.Own
namespace Go.Proofs.YtejocidipgfcjaaS
open Go.RowKit Go.Proofs.YtejocidipgfcjaaW.PrintWords

def entriesFrom : Nat → List (ByteArray × Value) → List MapEntry
  | _, [] => []
  | n, (k, v) :: r => ⟨.string k, v, n⟩ :: entriesFrom (n + 1) r
/-- The block of such a map. -/
def smap (l : List (ByteArray × Value)) : Obj := .map (entriesFrom 0 l).toArray l.length
theorem entriesFrom_snoc (k : ByteArray) (v : Value) : ∀ (n : Nat) (l : List (ByteArray × Value)), entriesFrom n (l ++ [(k, v)]) = entriesFrom n l ++ [⟨.string k, v, n + l.length⟩]
  | n, [] => by simp [entriesFrom]
  | n, (a, b) :: r => by
    simp only [List.cons_append, entriesFrom, entriesFrom_snoc k v (n + 1) r, List.length_cons]
    rw [show n + 1 + r.length = n + (r.length + 1) by omega]
def smLook (s : ByteArray) : List (ByteArray × Value) → Option Value
  | [] => none
  | (k, v) :: r => if s = k then some v else smLook s r
theorem find_none (s : ByteArray) : ∀ (l : List (ByteArray × Value)) (n i : Nat), smLook s l = none → Instr.findNow .string (.string s) (entriesFrom n l) i = some none
  | [], _, _, _ => rfl
  | (k, v) :: r, n, i, h => by
    simp only [smLook] at h
    split at h
    · cases h
    · rename_i hk
      have e : (s == k) = false := Bool.eq_false_iff.2 (fun h => hk ((MapKept.bytes_beq s k).1 h))
      simp only [entriesFrom, Instr.findNow, Instr.sameNow, e]
      exact find_none s r (n + 1) (i + 1) h
theorem find_some (s : ByteArray) (x : Value) : ∀ (l : List (ByteArray × Value)) (n i : Nat), smLook s l = some x → ∃ j, Instr.findNow .string (.string s) (entriesFrom n l) i = some (some (j, x))
  | [], _, _, h => by simp [smLook] at h
  | (k, v) :: r, n, i, h => by
    simp only [smLook] at h
    split at h
    · rename_i hk
      have e : (s == k) = true := (MapKept.bytes_beq s k).2 hk
      simp only [entriesFrom, Instr.findNow, Instr.sameNow, e]
      cases h
      exact ⟨i, rfl⟩
    · rename_i hk
      have e : (s == k) = false := Bool.eq_false_iff.2 (fun h => hk ((MapKept.bytes_beq s k).1 h))
      simp only [entriesFrom, Instr.findNow, Instr.sameNow, e]
      exact find_some s x r (n + 1) (i + 1) h
section
variable {P : Program} {ops : Array Oper} {rest : List Oper} {o : Oper} {a : Act} {Q : Exit → Act → World → Prop} {W : World}
theorem isKey_string (s : ByteArray) : MapKept.IsKey .string (.string s) := by simp [MapKept.IsKey]
/-- An entry of a literal, its key new. -/
theorem insert_new (hg : o.guard = none) (m k x : Operand) (t kt et : TypeId) (ho : o.op = .insert t m k x) (ht : P.underlying t = some (.map kt et)) (hk : P.underlying kt = some .string) (r : Nat) (l : List (ByteArray × Value)) (s : ByteArray) (v : Value)
    (hm : a.eval m = .map (some r)) (hs : a.eval k = .string s) (hv : a.eval x = v) (hb : W.heap[r]? = some (smap l)) (hf : smLook s l = none)
    (h : ∀ W', W'.heap[r]? = some (smap (l ++ [(s, v)])) → Below r W W' → wpList P ops Q rest (a.put o.dst undef) W') : wpList P ops Q (o :: rest) a W := by
  refine wpList_plain hg fun K' hK' => ?_
  unfold Oper.wp
  have hb' : W.heap[r]? = some (.map (entriesFrom 0 l).toArray l.length) := hb
  have hlt : r < W.heap.size := (Array.getElem?_eq_some_iff.1 hb).1
  have hfn := find_none s l 0 0 hf
  have hrun : (Instr.mapUpdate t (.map (some r)) (.string s) v).run P W = .ok () { W with heap := W.heap.setIfInBounds r (smap (l ++ [(s, v)])) } := by
    have e : smap (l ++ [(s, v)]) = .map ((entriesFrom 0 l).toArray.push ⟨.string s, v, l.length⟩) (l.length + 1) := by
      unfold smap
      rw [entriesFrom_snoc]
      simp
    rw [e]
    simp [Instr.mapUpdate, run_underlying ht, MapKept.run_getObj_map hb', MapKept.run_checkKey hk (isKey_string s), MapKept.run_findKey hk hfn, MapKept.run_setObj_map _ hb', Result.andThen]
  simp only [execOp, ho, hm, hs, hv]
  simp only [Sem.run_bind, hrun, Result.andThen]
  refine hK' _ _ (h _ ?_ ⟨rfl, rfl, rfl, by simp, fun i hi => ?_⟩)
  · simp [hlt]
  · simp [Nat.ne_of_gt hi]
/-- 'v, ok := m[k]' -/
theorem lookup_ok (hg : o.guard = none) (m k : Operand) (t kt et : TypeId) (ho : o.op = .lookup t m k true) (ht : P.underlying t = some (.map kt et)) (hk : P.underlying kt = some .string) (r : Nat) (l : List (ByteArray × Value)) (s : ByteArray) (z : Value)
    (hm : a.eval m = .map (some r)) (hs : a.eval k = .string s) (hb : W.heap[r]? = some (smap l)) (hz : (zeroValue et).run P W = .ok z W)
    (h : wpList P ops Q rest (a.put o.dst (.tuple #[(smLook s l).getD z, .bool (smLook s l).isSome])) W) : wpList P ops Q (o :: rest) a W := by
  refine wpList_plain hg fun K' hK' => ?_
  unfold Oper.wp
  have hb' : W.heap[r]? = some (.map (entriesFrom 0 l).toArray l.length) := hb
  have hrun : (Instr.lookup t (.map (some r)) (.string s) true).run P W = .ok (.tuple #[(smLook s l).getD z, .bool (smLook s l).isSome]) W := by
    cases hl : smLook s l with
    | none =>
      have hfn := find_none s l 0 0 hl
      simp [Instr.lookup, run_underlying ht, MapKept.run_getObj_map hb', MapKept.run_checkKey hk (isKey_string s), MapKept.run_findKey hk hfn, Result.andThen, hz]
    | some x =>
      obtain ⟨j, hfn⟩ := find_some s x l 0 0 hl
      simp [Instr.lookup, run_underlying ht, MapKept.run_getObj_map hb', MapKept.run_checkKey hk (isKey_string s), MapKept.run_findKey hk hfn, Result.andThen]
  simp only [execOp, ho, hm, hs]
  simp only [Sem.run_bind, hrun, Result.andThen]
  exact hK' _ _ h
end
end Go.Proofs.YtejocidipgfcjaaS
