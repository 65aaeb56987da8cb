/- Arguments opened: a slice of whatever elements as rows of cells that are read; structs by value. -/
import Derived.Test.YtoliplochipoeaaLib
import Derived.ProofKit
import Derived.Deep.Slices
import Derived.Deep.Fields
import Derived.Lib.SmallJoins
set_option linter.unusedVariables false
set_option linter.unusedSimpArgs false
namespace Go.Proofs.Ytoliplochipoeaa
open Go.ChangeShapes Go.WideShapes Go.RowKit Go.Deep Go.Joins

theorem addr_none {a : Addr} (h : a.spot = none) (j : Nat) : a.add j = ⟨a.block, a.off + j, none⟩ := by
  obtain ⟨b, o, s⟩ := a
  simp only at h
  subst h
  unfold Addr.add
  split <;> simp_all

theorem flatten_get {rows : List (List Value)} {size : Nat} (h : ∀ r ∈ rows, r.length = size) (i j : Nat) (hi : i < rows.length) (hj : j < size) : rows.flatten[i * size + j]? = (rows[i])[j]? := by
  induction rows generalizing i with
  | nil => simp at hi
  | cons r rs ih =>
    have hr : r.length = size := h r (by simp)
    rcases i with _ | i
    · simp only [List.flatten_cons, Nat.zero_mul, Nat.zero_add, List.getElem_cons_zero]
      rw [List.getElem?_append_left (by omega)]
    · simp only [List.flatten_cons, List.getElem_cons_succ]
      have e : (i + 1) * size + j = r.length + (i * size + j) := by rw [hr, Nat.succ_mul]; omega
      rw [e, List.getElem?_append_right (by omega), Nat.add_sub_cancel_left]
      exact ih (fun r hr => h r (by simp [hr])) i (by simpa using hi)
theorem flatten_length {rows : List (List Value)} {size : Nat} (h : ∀ r ∈ rows, r.length = size) : rows.flatten.length = rows.length * size := by
  induction rows with
  | nil => simp
  | cons r rs ih =>
    simp only [List.flatten_cons, List.length_append, List.length_cons]
    rw [ih (fun r hr => h r (by simp [hr])), h r (by simp), Nat.succ_mul, Nat.add_comm]

section
variable {H : Type} {enc : TypeId × Value → H} {P : Program} {w : World} {base : Nat} {spare : Nat → Bool} {held : Bool}
/-- A slice, however its elements read: E says of an element's cells what its reading gives. -/
theorem trod_rows {t e : TypeId} {size fuel : Nat} {cs : List Value} {y : DataW H × List MemPlace} (ht : P.underlying t = some (.slice e)) (hC : P.cellsOf e = size) (hs : 0 < size) (E : List Value → Prop)
    (hE : ∀ n cs y, DataW.trod enc P w base spare held n e cs = some y → E cs) (h : DataW.trod enc P w base spare held fuel t cs = some y) :
    ∃ (A : Option Addr) (n c : Nat) (rows : List (List Value)), cs = [.slice A n c] ∧ n ≤ c ∧ c ≤ maxLen ∧ rows.length = n ∧ (∀ r ∈ rows, r.length = size ∧ E r) ∧ Rd w w.heap.size size A n rows.flatten := by
  rcases open_slice ht h with ⟨rfl, _⟩ | ⟨a, len, cap, m, n, D, Pl, rfl, hb, hl, hm, hmm, _, hx⟩
  · exact ⟨none, 0, 0, [], rfl, Nat.le_refl _, by simp, rfl, by simp, Rd.nil_⟩
  · have hlm : len ≤ m := by rw [hmm]; split <;> omega
    obtain ⟨V, hV⟩ := choose_lt (α := List Value) (n := len) (p := fun i r => r.length = size ∧ E r ∧ ∀ j, j < size → w.cell? (a.add (i * size + j)) = r[j]?) (fun i hi => by
      obtain ⟨cs', h1, h2⟩ := hx i (by omega)
      rw [hC] at h1
      obtain ⟨_, hlen, hcell⟩ := World.cells?_some h1
      refine ⟨cs', hlen, hE _ _ _ h2, fun j hj => ?_⟩
      rw [← hcell j hj, Go.Deep.add_add])
    have hrow : ∀ r ∈ (List.range len).map V, r.length = size := by
      intro r hr
      obtain ⟨i, hi, rfl⟩ := List.mem_map.1 hr
      exact (hV i (by simpa using hi)).1
    refine ⟨some a, len, cap, (List.range len).map V, rfl, hl, hm, by simp, ?_, ?_, ?_⟩
    · intro r hr
      obtain ⟨i, hi, rfl⟩ := List.mem_map.1 hr
      have := hV i (by simpa using hi)
      exact ⟨this.1, this.2.1⟩
    · rw [flatten_length hrow]; simp
    · intro hn
      have hc0 := (hV 0 hn).2.2 0 hs
      have hl0 := (hV 0 hn).1
      rw [List.getElem?_eq_getElem (by omega)] at hc0
      have hsp : a.spot = none := by
        have := World.cell?_spot hc0
        simpa [Addr.add] using this
      refine ⟨a.block, a.off, ?_, ?_, ?_⟩
      · obtain ⟨b, o, s⟩ := a; simp only at hsp; subst hsp; rfl
      · have := World.block_lt_of_cell? _ _ hc0
        rwa [addr_none hsp] at this
      · intro j u hu
        have hj : j < len * size := by
          have := (List.getElem?_eq_some_iff.1 hu).1
          rw [flatten_length hrow] at this
          simpa using this
        have e : j = j / size * size + j % size := by rw [Nat.mul_comm]; exact (Nat.div_add_mod j size).symm
        have hq : j / size < len := Nat.div_lt_of_lt_mul (by rwa [Nat.mul_comm] at hj)
        have hr : j % size < size := Nat.mod_lt _ hs
        have h1 := (hV (j / size) hq).2.2 (j % size) hr
        rw [← e, addr_none hsp] at h1
        rw [h1]
        have h2 := flatten_get hrow (j / size) (j % size) (by simpa using hq) hr
        rw [← e] at h2
        rw [← hu, h2]
        simp

/-- Of rows that are each some x written out: the list of the x. -/
theorem rows_map {α : Type} (f : α → List Value) (R : α → Prop) : ∀ rows : List (List Value), (∀ r ∈ rows, ∃ x, r = f x ∧ R x) → ∃ xs : List α, rows = xs.map f ∧ ∀ x ∈ xs, R x := by
  intro rows
  induction rows with
  | nil => intro _; exact ⟨[], rfl, by simp⟩
  | cons r rs ih =>
    intro h
    obtain ⟨x, rfl, hx⟩ := h r (by simp)
    obtain ⟨xs, rfl, hxs⟩ := ih (fun r hr => h r (by simp [hr]))
    exact ⟨x :: xs, rfl, fun y hy => (List.mem_cons.1 hy).elim (fun e => e ▸ hx) (hxs y)⟩

/-- A slice whose elements are each some x written out. -/
theorem open_list {α : Type} (f : α → List Value) (R : α → Prop) {r : Reach} {b0 : Nat} {t e : TypeId} {size : Nat} {v : Value} {d : DataW H} {p : List MemPlace} (ht : P.underlying t = some (.slice e)) (hC : P.cellsOf e = size) (hs : 0 < size)
    (hE : ∀ n cs y, DataW.trod enc P w base spare held n e cs = some y → ∃ x, cs = f x ∧ R x) (hv : Value.okWide P w r b0 t v) (h : DataW.Trod enc P w base spare held t v d p) :
    ∃ A c, ∃ xs : List α, v = .slice A xs.length c ∧ xs.length ≤ c ∧ c ≤ maxLen ∧ (∀ x ∈ xs, R x) ∧ (∀ x ∈ xs, (f x).length = size) ∧ Rd w w.heap.size size A xs.length (xs.map f).flatten := by
  obtain ⟨a0, len, cap, rfl⟩ := okWide_slice ht hv
  obtain ⟨fuel, hf⟩ := h
  obtain ⟨A, n, c, rows, hcs, hl, hm, hn, hrows, hR⟩ := trod_rows ht hC hs (fun cs => ∃ x, cs = f x ∧ R x) hE hf
  simp only [Value.cells, List.cons.injEq, Value.slice.injEq, and_true] at hcs
  obtain ⟨rfl, rfl, rfl⟩ := hcs
  obtain ⟨xs, rfl, hxs⟩ := rows_map f R rows (fun r hr => (hrows r hr).2)
  simp only [List.length_map] at hn
  subst hn
  exact ⟨_, _, xs, rfl, hl, hm, hxs, fun x hx => (hrows _ (List.mem_map_of_mem hx)).1, hR⟩

/-- A struct, field by field. -/
theorem struct_field {t : TypeId} {fs : Array Field} {fuel : Nat} {cs : List Value} {x : DataW H × List MemPlace} (hs : P.underlying t = some (.struct fs)) (h : DataW.trod enc P w base spare held fuel t cs = some x) :
    cs.length = P.cellsOf t ∧ ∀ (i : Nat) (f : Field), fs[i]? = some f → ∃ n y, DataW.trod enc P w base spare held n f.type (List.take (P.cellsOf f.type) (List.drop f.offset cs)) = some y := by
  obtain ⟨xs, n, _, _, hl, hxl, hf⟩ := DataW.trod_struct hs h
  refine ⟨hl, fun i f hi => ?_⟩
  have hlt : i < fs.size := (Array.getElem?_eq_some_iff.1 hi).1
  exact ⟨n, xs[i]'(by omega), (hf i f hi).trans (List.getElem?_eq_getElem (by omega))⟩
theorem trod_list {α : Type} (f : α → List Value) (R : α → Prop) {t e : TypeId} {size fuel : Nat} {cs : List Value} {y : DataW H × List MemPlace} (ht : P.underlying t = some (.slice e)) (hC : P.cellsOf e = size) (hs : 0 < size)
    (hE : ∀ n cs y, DataW.trod enc P w base spare held n e cs = some y → ∃ x, cs = f x ∧ R x) (h : DataW.trod enc P w base spare held fuel t cs = some y) :
    ∃ (A : Option Addr) (c : Nat) (xs : List α), cs = [.slice A xs.length c] ∧ xs.length ≤ c ∧ c ≤ maxLen ∧ (∀ x ∈ xs, R x) ∧ Rd w w.heap.size size A xs.length (xs.map f).flatten := by
  obtain ⟨A, n, c, rows, hcs, hl, hm, hn, hrows, hR⟩ := trod_rows ht hC hs (fun cs => ∃ x, cs = f x ∧ R x) hE h
  obtain ⟨xs, rfl, hxs⟩ := rows_map f R rows (fun r hr => (hrows r hr).2)
  simp only [List.length_map] at hn
  subst hn
  exact ⟨A, c, xs, hcs, hl, hm, hxs, hR⟩

theorem trod_bool {t : TypeId} {n : Nat} {cs : List Value} {y : DataW H × List MemPlace} (ht : P.underlying t = some .bool) (h : DataW.trod enc P w base spare held n t cs = some y) : ∃ x : Bool, cs = [.bool x] ∧ True := by
  rcases n with _ | n
  · simp [DataW.trod] at h
  · unfold DataW.trod at h
    rw [ht] at h
    match cs, h with
    | [.bool b], _ => exact ⟨b, rfl, trivial⟩
theorem trod_intk {t : TypeId} {k : IntKind} {n : Nat} {cs : List Value} {y : DataW H × List MemPlace} (ht : P.underlying t = some (.int k)) (h : DataW.trod enc P w base spare held n t cs = some y) : ∃ x : Int, cs = [.int k x] ∧ (Lit.int k x).wf = true := by
  rcases n with _ | n
  · simp [DataW.trod] at h
  · unfold DataW.trod at h
    rw [ht] at h
    match cs, h with
    | [.int k' b], h =>
      simp only at h
      split at h
      · rename_i hh; obtain ⟨rfl, hw⟩ := hh; exact ⟨b, rfl, hw⟩
      · cases h
end
theorem flatten_one {α : Type} (f : α → Value) (xs : List α) : (xs.map fun x => [f x]).flatten = xs.map f := by induction xs <;> simp_all

end Go.Proofs.Ytoliplochipoeaa
