/- The frame of a law's row, once for all types: what an argument's reading says of its cells (Rdg), and that a call which changes nothing that was there pays the row. -/
import Derived.Test.YtagadehcbpoihaaDoorWWords
import Derived.WalkKit
import Derived.ProofKit
import Derived.OpenShut
import Derived.ShutString
import Derived.ChangeOld
import Derived.Below
import Derived.SizedLaws
import Derived.Deep.Slices
namespace Go.Proofs.YtagadehcbpoihaaDoorR
open Go.ChangeShapes Go.WideShapes Go.ChangeAt Go.RowKit Go.Proofs.YtagadehcbpoihaaDoorW.PrintWords

/-- What the reading of an argument of type t says: its cells are those of a value of the kind kd, which is good. -/
structure Rdg (P : Program) (t : TypeId) (α : Type) where
  kd : Kd α
  good : α → Prop
  opens : ∀ {H : Type} {enc : TypeId × Value → H} {w : World} {fuel : Nat} {cs : List Value} {d : DataW H} {ps : List MemPlace},
    DataW.trod enc P w 0 (fun _ => true) true fuel t cs = some (d, ps) → (∀ n ∈ d.weights P t, n ≤ reachBytes) → ∃ x, kd.K w x cs ∧ good x

def Rdg.int {P : Program} {t : TypeId} (k : IntKind) (ht : P.underlying t = some (.int k)) : Rdg P t Int where
  kd := Kd.int k
  good := fun x => (Lit.int k x).wf = true
  opens := fun h _ => by
    obtain ⟨n, rfl, _, hw⟩ := DataW.trod_int ht h
    exact ⟨n, rfl, hw⟩
def Rdg.bool {P : Program} {t : TypeId} (ht : P.underlying t = some .bool) : Rdg P t Bool where
  kd := Kd.bool
  good := fun _ => True
  opens := fun h _ => by
    obtain ⟨b, rfl, _⟩ := DataW.trod_bool ht h
    exact ⟨b, rfl, trivial⟩
def Rdg.string {P : Program} {t : TypeId} (ht : P.underlying t = some .string) : Rdg P t ByteArray where
  kd := Kd.string
  good := fun x => x.size ≤ 140737488351232
  opens := fun {H} {enc} {w} {fuel} {cs} {d} {ps} h hw => by
    obtain ⟨s, rfl, hx, _⟩ := DataW.trod_string ht h
    refine ⟨s, rfl, ?_⟩
    simp only [Prod.mk.injEq] at hx
    obtain ⟨rfl, _⟩ := hx
    have := hw s.data.toList.length (by simp [DataW.weights])
    rw [Array.length_toList] at this
    exact this

theorem weightsAll_mem {H : Type} {P : Program} {e : TypeId} : ∀ {ds : List (DataW H)} {d : DataW H}, d ∈ ds → ∀ n ∈ d.weights P e, n ∈ DataW.weightsAll P e ds
  | d0 :: ds, d, hd, n, hn => by
    simp only [DataW.weightsAll, List.mem_append]
    rcases List.mem_cons.1 hd with rfl | hd
    · exact .inl hn
    · exact .inr (weightsAll_mem hd n hn)
  | [], _, hd, _, _ => by simp at hd

def Rdg.slice {P : Program} {t e : TypeId} {α : Type} (d0 : α) (r : Rdg P e α) (ht : P.underlying t = some (.slice e)) (hc : P.cellsOf e = r.kd.sz) {B : Nat} (hB : P.bytesOf e = B) : Rdg P t (List α) where
  kd := Kd.slice e r.kd
  good := fun xs => xs.length ≤ maxLen ∧ xs.length * B ≤ 140737488351232 ∧ ∀ x ∈ xs, r.good x
  opens := fun {H} {enc} {w} {fuel} {cs} {d} {ps} h hw => by
    rcases Go.Deep.open_slice ht h with ⟨rfl, _⟩ | ⟨a, len, cap, m, n, D, Pl, rfl, _, hl, hm, hmm, hx, hel⟩
    · exact ⟨[], ⟨none, 0, rfl, Nat.le_refl _, Kd.C_nil _ _⟩, by simp, by simp, by simp⟩
    · simp only [if_true] at hmm
      subst hmm
      simp only [Prod.mk.injEq] at hx
      obtain ⟨rfl, _⟩ := hx
      have hwe : ∀ i, i < len → ∀ q ∈ (D i).weights P e, q ≤ reachBytes := fun i hi q hq => hw q (by
        simp only [DataW.weights, ht, List.mem_cons, List.mem_append]
        exact .inr (.inl (weightsAll_mem (List.mem_map.2 ⟨i, List.mem_range.2 hi, rfl⟩) q hq)))
      have hall : ∀ i, i < len → ∃ x, (∃ c, w.cells? 0 (a.add (i * P.cellsOf e)) (P.cellsOf e) = some c ∧ r.kd.K w x c) ∧ r.good x := fun i hi => by
        obtain ⟨c, hc1, hc2⟩ := hel i (by omega)
        obtain ⟨x, hx1, hx2⟩ := r.opens hc2 (hwe i hi)
        exact ⟨x, ⟨c, hc1, hx1⟩, hx2⟩
      have hex : ∃ f : Nat → α, ∀ i, i < len → (∃ c, w.cells? 0 (a.add (i * P.cellsOf e)) (P.cellsOf e) = some c ∧ r.kd.K w (f i) c) ∧ r.good (f i) := by
        refine ⟨fun i => if hi : i < len then (hall i hi).choose else d0, fun i hi => ?_⟩
        simp only [hi, dite_true]
        exact (hall i hi).choose_spec
      obtain ⟨f, hf⟩ := hex
      have hlen : ((List.range len).map f).length = len := by simp
      refine ⟨(List.range len).map f, ⟨some a, m, by rw [hlen], by rw [hlen]; exact hl, ?_⟩, ?_, ?_, ?_⟩
      · refine ⟨rfl, ?_, fun _ => ⟨a, rfl, fun j p hj => ?_⟩⟩
        · rw [hlen]
          have : m ≤ 9223372036854775807 := hm
          omega
        · have hjl : j < len := by
            have := (List.getElem?_eq_some_iff.1 hj).1
            rwa [hlen] at this
          simp only [List.getElem?_map, List.getElem?_range hjl, Option.map_some, Option.some.injEq] at hj
          subst hj
          obtain ⟨⟨c, hc1, hc2⟩, _⟩ := hf j hjl
          obtain ⟨_, hcl, hcell⟩ := World.cells?_some hc1
          refine ⟨c, r.kd.K_len hc2, hc2, fun i u hu => ?_⟩
          have hi : i < P.cellsOf e := by rw [← hcl]; exact (List.getElem?_eq_some_iff.1 hu).1
          rw [← hc, ← Go.Deep.add_add, hcell i hi, hu]
      · rw [hlen]; exact Nat.le_trans hl hm
      · rw [hlen, ← hB]
        have := hw ((((List.range len).map D).length + ((List.range (m - len)).map fun j => D (len + j)).length) * P.bytesOf e) (by simp [DataW.weights, ht])
        refine Nat.le_trans (Nat.mul_le_mul_right _ ?_) this
        simp
      · intro x hx
        obtain ⟨i, hi, rfl⟩ := List.mem_map.1 hx
        exact (hf i (List.mem_range.1 hi)).2

/-- Fields in line, from cell o on. -/
structure RdgF (P : Program) (o : Nat) (fs : List Field) (α : Type) where
  kd : Kd α
  good : α → Prop
  opens : ∀ {H : Type} {enc : TypeId × Value → H} {w : World} {n : Nat} {cs : List Value} {xs : List (DataW H × List MemPlace)}, xs.length = fs.length →
    (∀ (i : Nat) (f : Field), fs[i]? = some f → DataW.trod enc P w 0 (fun _ => true) true n f.type ((cs.drop f.offset).take (P.cellsOf f.type)) = xs[i]?) →
    (∀ q ∈ DataW.weightsEach P (fs.map (·.type)) (xs.map (·.1)), q ≤ reachBytes) → ∃ x, kd.K w x ((cs.drop o).take kd.sz) ∧ good x
def RdgF.one {P : Program} {o : Nat} {f : Field} {α : Type} (r : Rdg P f.type α) (ho : f.offset = o) (hc : P.cellsOf f.type = r.kd.sz) : RdgF P o [f] α where
  kd := r.kd
  good := r.good
  opens := fun {H} {enc} {w} {n} {cs} {xs} hl h hw => by
    match xs, hl with
    | [(d, ps)], _ =>
      have h0 := h 0 f rfl
      rw [ho, hc] at h0
      exact r.opens h0 (fun q hq => hw q (by simpa [DataW.weightsEach] using hq))
def RdgF.cons {P : Program} {o : Nat} {f : Field} {fs : List Field} {α β : Type} (r : Rdg P f.type α) (ho : f.offset = o) (hc : P.cellsOf f.type = r.kd.sz) (R : RdgF P (o + r.kd.sz) fs β) : RdgF P o (f :: fs) (α × β) where
  kd := Kd.pair r.kd R.kd
  good := fun x => r.good x.1 ∧ R.good x.2
  opens := fun {H} {enc} {w} {n} {cs} {xs} hl h hw => by
    match xs, hl with
    | (d, ps) :: xs', hl =>
      have h0 := h 0 f rfl
      rw [ho, hc] at h0
      obtain ⟨x, hx, gx⟩ := r.opens h0 (fun q hq => hw q (by simp only [List.map_cons, DataW.weightsEach, List.mem_append]; exact .inl hq))
      obtain ⟨y, hy, gy⟩ := R.opens (xs := xs') (by simpa using hl) (fun i g hg => by simpa using h (i + 1) g (by simpa using hg)) (fun q hq => hw q (by simp only [List.map_cons, DataW.weightsEach, List.mem_append]; exact .inr hq))
      refine ⟨(x, y), ⟨_, _, ?_, hx, hy⟩, gx, gy⟩
      show (cs.drop o).take (r.kd.sz + R.kd.sz) = _
      rw [List.take_add, List.drop_drop]
def Rdg.struct {P : Program} {t : TypeId} {fs : Array Field} {α β : Type} (F : RdgF P 0 fs.toList α) (f : β → α) (g : α → β) (hfg : ∀ a, f (g a) = a) (ht : P.underlying t = some (.struct fs)) (hc : P.cellsOf t = F.kd.sz) : Rdg P t β where
  kd := Kd.iso F.kd f
  good := fun x => F.good (f x)
  opens := fun {H} {enc} {w} {fuel} {cs} {d} {ps} h hw => by
    obtain ⟨xs, n, _, hx, hl, hlen, hf⟩ := DataW.trod_struct ht h
    simp only [Prod.mk.injEq] at hx
    obtain ⟨rfl, _⟩ := hx
    obtain ⟨x, h1, h2⟩ := F.opens (xs := xs) (by simpa using hlen) (fun i g hg => hf i g (by simpa using hg)) (fun q hq => hw q (by simpa [DataW.weights, ht] using hq))
    refine ⟨g x, ?_, by rw [hfg]; exact h2⟩
    show F.kd.K w (f (g x)) cs
    rw [hfg]
    rw [List.drop_zero, List.take_of_length_le (by rw [hl, hc]; exact Nat.le_refl _)] at h1
    exact h1

/-- An array of a fixed size, as fields in line, of one type. -/
def fld (e o : Nat) : Field := { (default : Field) with type := e, offset := o }
def arrF (e c : Nat) : Nat → Nat → List Field
  | 0, _ => []
  | n + 1, o => fld e o :: arrF e c n (o + c)
theorem arrF_len (e c : Nat) : ∀ n o, (arrF e c n o).length = n
  | 0, _ => rfl
  | n + 1, o => by rw [arrF, List.length_cons, arrF_len e c n]
theorem arrF_get (e c : Nat) : ∀ n o i, i < n → (arrF e c n o)[i]? = some (fld e (o + i * c))
  | 0, _, _, h => by omega
  | n + 1, o, 0, _ => by simp [arrF]
  | n + 1, o, i + 1, h => by
    rw [arrF, List.getElem?_cons_succ, arrF_get e c n (o + c) i (by omega), Nat.succ_mul]
    congr 2
    omega
theorem arrF_weights {H : Type} (P : Program) (e c : Nat) : ∀ (n o : Nat) (ds : List (DataW H)), ds.length = n → DataW.weightsEach P ((arrF e c n o).map (·.type)) ds = DataW.weightsAll P e ds
  | 0, o, [], _ => by simp [arrF, DataW.weightsEach, DataW.weightsAll]
  | 0, o, d :: ds, h => by simp at h
  | n + 1, o, [], h => by simp at h
  | n + 1, o, d :: ds, h => by
    rw [arrF, List.map_cons]
    show DataW.weightsEach P (e :: _) (d :: ds) = _
    simp only [DataW.weightsEach, DataW.weightsAll, arrF_weights P e c n (o + c) ds (by simpa using h)]
def Rdg.array {P : Program} {t e n c : Nat} {α β : Type} (hcE : P.cellsOf e = c) (F : RdgF P 0 (arrF e c n 0) α) (f : β → α) (g : α → β) (hfg : ∀ a, f (g a) = a) (ht : P.underlying t = some (.array n e)) (hc : P.cellsOf t = F.kd.sz) : Rdg P t β where
  kd := Kd.iso F.kd f
  good := fun x => F.good (f x)
  opens := fun {H} {enc} {w} {fuel} {cs} {d} {ps} h hw => by
    obtain ⟨xs, m, _, hx, hl, hlen, hf⟩ := DataW.trod_array ht h
    simp only [Prod.mk.injEq] at hx
    obtain ⟨rfl, _⟩ := hx
    obtain ⟨x, h1, h2⟩ := F.opens (xs := xs) (by rw [arrF_len]; exact hlen) (fun i k hk => by
      have hi : i < n := by have := (List.getElem?_eq_some_iff.1 hk).1; rwa [arrF_len] at this
      rw [arrF_get e c n 0 i hi] at hk
      obtain rfl := Option.some.inj hk
      have := hf i hi
      rw [hcE] at this
      show DataW.trod enc P w 0 (fun _ => true) true m e ((cs.drop (0 + i * c)).take (P.cellsOf e)) = xs[i]?
      rw [hcE, Nat.zero_add]
      exact this) (fun q hq => hw q (by
        rw [arrF_weights P e c n 0 (xs.map (·.1)) (by simpa using hlen)] at hq
        simpa [DataW.weights, ht] using hq))
    refine ⟨g x, ?_, by rw [hfg]; exact h2⟩
    show F.kd.K w (f (g x)) cs
    rw [hfg]
    rw [List.drop_zero, List.take_of_length_le (by rw [hl, hc]; exact Nat.le_refl _)] at h1
    exact h1

theorem okWide_array' {P : Program} {w : World} {r : Reach} {base : Nat} {t e : TypeId} {n : Nat} {v : Value} (ht : P.underlying t = some (.array n e)) (h : Value.okWide P w r base t v) : ∃ cs, v = .agg cs ∧ cs.size = P.cellsOf t := by
  simp only [Value.okWide, ht] at h
  obtain ⟨cs, h1, h2, _⟩ := h
  exact ⟨cs, h1, h2⟩

/-- The arguments read, type by type. -/
theorem trodAll_below {H : Type} {enc : TypeId × Value → H} {P : Program} (hl : laidOutB P = true) {W W' : World} (hb : Below W.heap.size W W') :
    ∀ {ts : List TypeId} {vs : List Value} {ds : List (DataW H)} {ps : List MemPlace}, (ts.all fun t => P.readableRec t && decide (t < P.types.size)) = true →
      DataW.TrodAll enc P W 0 (fun _ => true) true ts vs ds ps → ∃ qs, DataW.TrodAll enc P W' 0 (fun b => decide (b < W.heap.size)) true ts vs ds qs
  | [], [], [], _, _, h => ⟨_, h⟩
  | t :: ts, v :: vs, d :: ds, ps, ht, h => by
    obtain ⟨p, q, h1, h2, rfl⟩ := h
    simp only [List.all_cons, Bool.and_eq_true, decide_eq_true_eq] at ht
    obtain ⟨qs, hq⟩ := trodAll_below hl hb ht.2 h2
    have hlt : ∀ x ∈ p, x.block < W.heap.size := by obtain ⟨m, hm⟩ := h1; exact DataW.trod_lt m _ _ _ hm
    exact ⟨_, p, qs, Below.trod hl ht.1.1 ht.1.2 h1 hb hlt, hq, rfl⟩
  | [], _ :: _, _, _, _, h => h.elim
  | [], [], _ :: _, _, _, h => h.elim
  | _ :: _, [], _, _, _, h => h.elim
  | _ :: _, _ :: _, [], _, _, h => h.elim

/-- One argument's cells, and what is good of it. -/
theorem Rdg.arg {P : Program} {t : TypeId} {α : Type} (r : Rdg P t α) {H : Type} {enc : TypeId × Value → H} {w : World} {v : Value} {d : DataW H} {ps : List MemPlace} (h : DataW.Trod enc P w 0 (fun _ => true) true t v d ps)
    (hw : ∀ n ∈ d.weights P t, n ≤ reachBytes) : ∃ x, r.kd.K w x v.cells.toList ∧ r.good x := by
  obtain ⟨fuel, hf⟩ := h
  exact r.opens hf hw
theorem weights_arg {H : Type} {P : Program} {ts : List TypeId} {ds : List (DataW H)} (h : (DataW.weightsEach P ts ds).all (· ≤ reachBytes) = true) {j : Nat} {t : TypeId} {d : DataW H} (ht : ts[j]? = some t) (hd : ds[j]? = some d) : ∀ n ∈ d.weights P t, n ≤ reachBytes := fun n hn => by
  simpa using List.all_eq_true.1 h _ (DataW.weights_mem_each ht hd n hn)
/-- A value that stands in one cell. -/
theorem cells_one {v : Value} (h : v.oneCell' = true) : v.cells.toList = [v] := by cases v <;> simp_all [Value.cells, Value.oneCell']
theorem agg_of {cs : Array Value} {l : List Value} (h : (Value.agg cs).cells.toList = l) : Value.agg cs = .agg l.toArray := by
  simp only [Value.cells] at h
  rw [← h]

/-- THE ROW: a law whose call is true and changes nothing that was there. -/
theorem law_post {H : Type} {enc : TypeId × Value → H} {P : Program} {fn : Func} {s : ChangeSpec} {W W' : World} {args : Array Value} {ds gs : List (DataW H)} {before : List MemPlace} {v : Value} (hl : laidOutB P = true)
    (hW : DataW.Whole enc P fn.params.toList s.vars false W args.toList ds gs before) (hs : s.vars = []) (ht : (fn.params.toList.all fun t => P.readableRec t && decide (t < P.types.size)) = true)
    (hfn : (s.fn H (ds ++ gs)).results = [.lit (.bool true)] ∧ (s.fn H (ds ++ gs)).args = ds ∧ (s.fn H (ds ++ gs)).vars = []) (hr : fn.resultTypes.toList.length = 1) {rt : TypeId} (hrt : fn.resultTypes.toList = [rt]) (hu : P.underlying rt = some .bool)
    (hv : v = .bool true) (hb : Below W.heap.size W W') : s.post enc P fn false true false false W args v W' := by
  subst hv
  have hW2 := hW
  obtain ⟨p, q, hA, hV, rfl, _, _⟩ := hW
  obtain ⟨qs, hq⟩ := trodAll_below hl hb ht hA
  refine ⟨ds, gs, _, [], qs, [], hW2, ?_, ?_, ?_, hb.frame _, fun h => by cases h⟩
  · rw [hfn.1, hrt]
    have : fn.resultTypes.size = 1 := by simpa using hr
    rw [this]
    exact trodAll_mk1 (shut_bool hu _)
  · rw [hfn.2.1]; exact hq
  · rw [hfn.2.2, hs]; exact rfl
end Go.Proofs.YtagadehcbpoihaaDoorR
