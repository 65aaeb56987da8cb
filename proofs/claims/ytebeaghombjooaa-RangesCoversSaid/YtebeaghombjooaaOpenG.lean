/- Arguments opened: ranges, lists of ranges, lists of ints. -/
import Derived.Test.YtebeaghombjooaaRows
import Derived.Test.YtebeaghombjooaaOpen
import Derived.Test.YtebeaghombjooaaRh
set_option linter.unusedVariables false
set_option linter.unusedSimpArgs false
namespace Go.Proofs.Ytebeaghombjooaa
open Go.ChangeShapes Go.WideShapes Go.RowKit Go.Deep Go.Joins
theorem cs_int : Try.prog.cellsOf 3 = 1 := by kernel_rfl
theorem cs_range : Try.prog.cellsOf 37 = 2 := by kernel_rfl
section
variable {H : Type} {enc : TypeId × Value → H} {w : World} {base : Nat} {spare : Nat → Bool} {held : Bool}
theorem trod_range {n : Nat} {cs : List Value} {y : DataW H × List MemPlace} (h : DataW.trod enc Try.prog w base spare held n 37 cs = some y) :
    ∃ s : Rg, cs = rgRow s ∧ (Lit.int .i64 s.1).wf = true ∧ (Lit.int .i64 s.2).wf = true := by
  obtain ⟨hl, hf⟩ := struct_field Try.underlying37 h
  rw [cs_range] at hl
  match cs, hl with
  | [c0, c1], _ =>
    obtain ⟨n0, y0, h0⟩ := hf 0 _ rfl
    obtain ⟨n1, y1, h1⟩ := hf 1 _ rfl
    simp only [cs_int, List.getElem_toArray, List.getElem_cons_zero, List.getElem_cons_succ, List.drop, List.take] at h0 h1
    obtain ⟨a, e0, w0⟩ := trod_intk Try.underlying3 h0
    obtain ⟨b, e1, w1⟩ := trod_intk Try.underlying3 h1
    simp only [List.cons.injEq, and_true] at e0 e1
    subst e0; subst e1
    exact ⟨(a, b), rfl, w0, w1⟩
theorem open_range {r : Reach} {b0 : Nat} {v : Value} {d : DataW H} {p : List MemPlace} (hv : Value.okWide Try.prog w r b0 37 v) (h : DataW.Trod enc Try.prog w base spare held 37 v d p) :
    ∃ b q : Int, v = .agg #[.int .i64 b, .int .i64 q] ∧ (-9223372036854775808 ≤ b ∧ b ≤ 9223372036854775807) ∧ (-9223372036854775808 ≤ q ∧ q ≤ 9223372036854775807) := by
  obtain ⟨cs, rfl, hsz⟩ := okWide_struct Try.underlying37 hv
  obtain ⟨fuel, hf0⟩ := h
  obtain ⟨s, e, w0, w1⟩ := trod_range hf0
  obtain ⟨l⟩ := cs
  simp only [Value.cells, rgRow] at e
  subst e
  exact ⟨s.1, s.2, rfl, wf_i64' w0, wf_i64' w1⟩
theorem open_ranges {r : Reach} {b0 : Nat} {v : Value} {d : DataW H} {p : List MemPlace} (hv : Value.okWide Try.prog w r b0 22 v) (h : DataW.Trod enc Try.prog w base spare held 22 v d p) :
    ∃ (A : Option Addr) (n c : Nat) (l : List Rg), v = .slice A n c ∧ n ≤ c ∧ c ≤ maxLen ∧ Rd w w.heap.size 2 A n (rgCells l) := by
  obtain ⟨a0, len, cap, rfl⟩ := okWide_slice Try.underlying22 hv
  obtain ⟨fuel, hf⟩ := h
  obtain ⟨A, c, l, hcs, hl, hm, hx, hR⟩ := trod_list (size := 2) rgRow (fun _ => True) Try.underlying22 cs_range (by decide) (fun n cs y h => by obtain ⟨s, e, _⟩ := trod_range h; exact ⟨s, e, trivial⟩) hf
  simp only [Value.cells, List.cons.injEq, Value.slice.injEq, and_true] at hcs
  obtain ⟨rfl, rfl, rfl⟩ := hcs
  exact ⟨_, _, _, l, rfl, hl, hm, hR⟩
theorem open_ints {r : Reach} {b0 : Nat} {v : Value} {d : DataW H} {p : List MemPlace} (hv : Value.okWide Try.prog w r b0 28 v) (h : DataW.Trod enc Try.prog w base spare held 28 v d p) :
    ∃ (A : Option Addr) (n c : Nat) (l : List Int), v = .slice A n c ∧ n ≤ c ∧ c ≤ maxLen ∧ Rd w w.heap.size 1 A n (i64s l) ∧ ∀ x ∈ l, -9223372036854775808 ≤ x ∧ x ≤ 9223372036854775807 := by
  obtain ⟨a0, len, cap, rfl⟩ := okWide_slice Try.underlying28 hv
  obtain ⟨fuel, hf⟩ := h
  obtain ⟨A, c, l, hcs, hl, hm, hx, hR⟩ := trod_list (size := 1) (fun x : Int => [Value.int .i64 x]) (fun x => (Lit.int .i64 x).wf = true) Try.underlying28 cs_int (by decide) (fun n cs y h => trod_intk Try.underlying3 h) hf
  simp only [Value.cells, List.cons.injEq, Value.slice.injEq, and_true] at hcs
  obtain ⟨rfl, rfl, rfl⟩ := hcs
  have e : (l.map fun x : Int => [Value.int .i64 x]).flatten = i64s l := by
    clear hl hm hx hR hf hv
    induction l with
    | nil => rfl
    | cons x t ih => simp only [List.map_cons, List.flatten_cons, ih, i64s]; rfl
  rw [e] at hR
  exact ⟨_, _, _, l, rfl, hl, hm, hR, fun x h => wf_i64' (hx x h)⟩
end
end Go.Proofs.Ytebeaghombjooaa
