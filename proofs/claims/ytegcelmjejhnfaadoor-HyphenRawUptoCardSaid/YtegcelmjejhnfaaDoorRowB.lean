/- The frame of a law's row in the second form: what an argument's reading says, and how much it holds at the most. -/
import Derived.Test.YtegcelmjejhnfaaDoorRows
import Derived.Test.YtegcelmjejhnfaaDoorRow
namespace Go.Proofs.YtegcelmjejhnfaaDoorRB
open Go.ChangeShapes Go.WideShapes Go.ChangeAt Go.RowKit Go.Proofs.YtegcelmjejhnfaaDoorW.PrintWords Go.Proofs.YtegcelmjejhnfaaDoor
set_option linter.unusedVariables false
theorem bulk_one {H : Type} (d : DataW H) : 1 ≤ Rows.uptoBulk d := by
  cases d with
  | lit l => cases l <;> simp [Rows.uptoBulk]
  | nil => simp [Rows.uptoBulk]
  | ptr d => simp [Rows.uptoBulk]
  | slice elems spare => simp [Rows.uptoBulk]
  | agg parts => simp [Rows.uptoBulk]
  | iface t d => simp [Rows.uptoBulk]
  | map entries => simp [Rows.uptoBulk]
  | held h => simp [Rows.uptoBulk]
theorem bulk_part {H : Type} {d : DataW H} {l : List (DataW H)} (h : d ∈ l) : Rows.uptoBulk d ≤ Rows.uptoBulkAll l := by
  induction l with
  | nil => cases h
  | cons x r ih =>
    simp only [Rows.uptoBulkAll]
    rcases List.mem_cons.1 h with rfl | e
    · omega
    · have := ih e; omega
theorem bulk_len {H : Type} (l : List (DataW H)) : l.length ≤ Rows.uptoBulkAll l := by
  induction l with
  | nil => simp [Rows.uptoBulkAll]
  | cons x r ih => have := bulk_one x; simp only [Rows.uptoBulkAll, List.length_cons]; omega
structure Rdg (P : Program) (t : TypeId) (α : Type) where
  kd : Kd α
  good : α → Prop
  opens : ∀ {H : Type} {enc : TypeId × Value → H} {w : World} {fuel : Nat} {cs : List Value} {d : DataW H} {ps : List MemPlace},
    DataW.trod enc P w 0 (fun _ => true) true fuel t cs = some (d, ps) → Rows.uptoBulk d ≤ 1048576 → ∃ x, kd.K w x cs ∧ good x
def Rdg.int {P : Program} {t : TypeId} (k : IntKind) (ht : P.underlying t = some (.int k)) : Rdg P t Int where
  kd := Kd.int k
  good := fun x => (Lit.int k x).wf = true
  opens := fun h _ => by
    obtain ⟨n, rfl, _, hw⟩ := DataW.trod_int ht h
    exact ⟨n, rfl, hw⟩
def Rdg.bool {P : Program} {t : TypeId} (ht : P.underlying t = some .bool) : Rdg P t Bool where
  kd := Kd.bool
  good := fun _ => True
  opens := fun h _ => by
    obtain ⟨b, rfl, _⟩ := DataW.trod_bool ht h
    exact ⟨b, rfl, trivial⟩
def Rdg.string {P : Program} {t : TypeId} (ht : P.underlying t = some .string) : Rdg P t ByteArray where
  kd := Kd.string
  good := fun x => x.size ≤ 1048576
  opens := fun {H} {enc} {w} {fuel} {cs} {d} {ps} h hw => by
    obtain ⟨s, rfl, hx, _⟩ := DataW.trod_string ht h
    refine ⟨s, rfl, ?_⟩
    simp only [Prod.mk.injEq] at hx
    obtain ⟨rfl, _⟩ := hx
    simp only [Rows.uptoBulk, Array.length_toList] at hw
    show s.data.size ≤ _
    omega
def Rdg.slice {P : Program} {t e : TypeId} {α : Type} (d0 : α) (r : Rdg P e α) (ht : P.underlying t = some (.slice e)) (hc : P.cellsOf e = r.kd.sz) {B : Nat} (hB : P.bytesOf e = B) : Rdg P t (List α) where
  kd := Kd.slice e r.kd
  good := fun xs => xs.length ≤ 1048576 ∧ ∀ x ∈ xs, r.good x
  opens := fun {H} {enc} {w} {fuel} {cs} {d} {ps} h hw => by
    rcases Go.Deep.open_slice ht h with ⟨rfl, _⟩ | ⟨a, len, cap, m, n, D, Pl, rfl, _, hl, hm, hmm, hx, hel⟩
    · exact ⟨[], ⟨none, 0, rfl, Nat.le_refl _, Kd.C_nil _ _⟩, by simp, by simp⟩
    · simp only [if_true] at hmm
      subst hmm
      simp only [Prod.mk.injEq] at hx
      obtain ⟨rfl, _⟩ := hx
      simp only [Rows.uptoBulk] at hw
      have hall : ∀ i, i < len → ∃ x, (∃ c, w.cells? 0 (a.add (i * P.cellsOf e)) (P.cellsOf e) = some c ∧ r.kd.K w x c) ∧ r.good x := fun i hi => by
        obtain ⟨c, hc1, hc2⟩ := hel i (by omega)
        have hb : Rows.uptoBulk (D i) ≤ _ := bulk_part (List.mem_map.2 ⟨i, List.mem_range.2 hi, rfl⟩)
        obtain ⟨x, hx1, hx2⟩ := r.opens hc2 (by omega)
        exact ⟨x, ⟨c, hc1, hx1⟩, hx2⟩
      have hex : ∃ f : Nat → α, ∀ i, i < len → (∃ c, w.cells? 0 (a.add (i * P.cellsOf e)) (P.cellsOf e) = some c ∧ r.kd.K w (f i) c) ∧ r.good (f i) := by
        refine ⟨fun i => if hi : i < len then (hall i hi).choose else d0, fun i hi => ?_⟩
        simp only [hi, dite_true]
        exact (hall i hi).choose_spec
      obtain ⟨f, hf⟩ := hex
      have hlen : ((List.range len).map f).length = len := by simp
      refine ⟨(List.range len).map f, ⟨some a, m, by rw [hlen], by rw [hlen]; exact hl, ?_⟩, ?_, ?_⟩
      · refine ⟨rfl, ?_, fun _ => ⟨a, rfl, fun j p hj => ?_⟩⟩
        · rw [hlen]
          have : m ≤ 9223372036854775807 := hm
          omega
        · have hjl : j < len := by
            have := (List.getElem?_eq_some_iff.1 hj).1
            rwa [hlen] at this
          simp only [List.getElem?_map, List.getElem?_range hjl, Option.map_some, Option.some.injEq] at hj
          subst hj
          obtain ⟨⟨c, hc1, hc2⟩, _⟩ := hf j hjl
          obtain ⟨_, hcl, hcell⟩ := World.cells?_some hc1
          refine ⟨c, r.kd.K_len hc2, hc2, fun i u hu => ?_⟩
          have hi : i < P.cellsOf e := by rw [← hcl]; exact (List.getElem?_eq_some_iff.1 hu).1
          rw [← hc, ← Go.Deep.add_add, hcell i hi, hu]
      · rw [hlen]
        have := bulk_len ((List.range len).map D)
        rw [List.length_map, List.length_range] at this
        omega
      · intro x hx
        obtain ⟨i, hi, rfl⟩ := List.mem_map.1 hx
        exact (hf i (List.mem_range.1 hi)).2
structure RdgF (P : Program) (o : Nat) (fs : List Field) (α : Type) where
  kd : Kd α
  good : α → Prop
  opens : ∀ {H : Type} {enc : TypeId × Value → H} {w : World} {n : Nat} {cs : List Value} {xs : List (DataW H × List MemPlace)}, xs.length = fs.length →
    (∀ (i : Nat) (f : Field), fs[i]? = some f → DataW.trod enc P w 0 (fun _ => true) true n f.type ((cs.drop f.offset).take (P.cellsOf f.type)) = xs[i]?) →
    Rows.uptoBulkAll (xs.map (·.1)) ≤ 1048576 → ∃ x, kd.K w x ((cs.drop o).take kd.sz) ∧ good x
def RdgF.one {P : Program} {o : Nat} {f : Field} {α : Type} (r : Rdg P f.type α) (ho : f.offset = o) (hc : P.cellsOf f.type = r.kd.sz) : RdgF P o [f] α where
  kd := r.kd
  good := r.good
  opens := fun {H} {enc} {w} {n} {cs} {xs} hl h hw => by
    match xs, hl with
    | [(d, ps)], _ =>
      have h0 := h 0 f rfl
      rw [ho, hc] at h0
      simp only [List.map_cons, List.map_nil, Rows.uptoBulkAll] at hw
      exact r.opens h0 (by omega)
def RdgF.cons {P : Program} {o : Nat} {f : Field} {fs : List Field} {α β : Type} (r : Rdg P f.type α) (ho : f.offset = o) (hc : P.cellsOf f.type = r.kd.sz) (R : RdgF P (o + r.kd.sz) fs β) : RdgF P o (f :: fs) (α × β) where
  kd := Kd.pair r.kd R.kd
  good := fun x => r.good x.1 ∧ R.good x.2
  opens := fun {H} {enc} {w} {n} {cs} {xs} hl h hw => by
    match xs, hl with
    | (d, ps) :: xs', hl =>
      have h0 := h 0 f rfl
      rw [ho, hc] at h0
      simp only [List.map_cons, Rows.uptoBulkAll] at hw
      obtain ⟨x, hx, gx⟩ := r.opens h0 (by omega)
      obtain ⟨y, hy, gy⟩ := R.opens (xs := xs') (by simpa using hl) (fun i g hg => by simpa using h (i + 1) g (by simpa using hg)) (by omega)
      refine ⟨(x, y), ⟨_, _, ?_, hx, hy⟩, gx, gy⟩
      show (cs.drop o).take (r.kd.sz + R.kd.sz) = _
      rw [List.take_add, List.drop_drop]
def Rdg.struct {P : Program} {t : TypeId} {fs : Array Field} {α β : Type} (F : RdgF P 0 fs.toList α) (f : β → α) (g : α → β) (hfg : ∀ a, f (g a) = a) (ht : P.underlying t = some (.struct fs)) (hc : P.cellsOf t = F.kd.sz) : Rdg P t β where
  kd := Kd.iso F.kd f
  good := fun x => F.good (f x)
  opens := fun {H} {enc} {w} {fuel} {cs} {d} {ps} h hw => by
    obtain ⟨xs, n, _, hx, hl, hlen, hf⟩ := DataW.trod_struct ht h
    simp only [Prod.mk.injEq] at hx
    obtain ⟨rfl, _⟩ := hx
    simp only [Rows.uptoBulk] at hw
    obtain ⟨x, h1, h2⟩ := F.opens (xs := xs) (by simpa using hlen) (fun i g hg => hf i g (by simpa using hg)) (by omega)
    refine ⟨g x, ?_, by rw [hfg]; exact h2⟩
    show F.kd.K w (f (g x)) cs
    rw [hfg]
    rw [List.drop_zero, List.take_of_length_le (by rw [hl, hc]; exact Nat.le_refl _)] at h1
    exact h1
/-- One argument's cells, and what is good of it. -/
theorem Rdg.arg {P : Program} {t : TypeId} {α : Type} (r : Rdg P t α) {H : Type} {enc : TypeId × Value → H} {w : World} {v : Value} {d : DataW H} {ps : List MemPlace} (h : DataW.Trod enc P w 0 (fun _ => true) true t v d ps)
    (hw : Rows.uptoBulk d ≤ 1048576) : ∃ x, r.kd.K w x v.cells.toList ∧ r.good x := by
  obtain ⟨fuel, hf⟩ := h
  exact r.opens hf hw
theorem bulk_arg {H : Type} {ds : List (DataW H)} (hk : Rows.uptoSmall H ds = true) {j : Nat} {d : DataW H} (hd : ds[j]? = some d) : Rows.uptoBulk d ≤ 1048576 := by
  have h := of_decide_eq_true hk
  exact Nat.le_trans (bulk_part (List.mem_of_getElem? hd)) h
theorem some_of_any {α : Type} {o : Option α} {p : α → Bool} (h : o.any p = true) : ∃ x, o = some x ∧ p x = true := by
  cases o with
  | none => cases h
  | some x => exact ⟨x, rfl, h⟩
end Go.Proofs.YtegcelmjejhnfaaDoorRB
