/- Arguments opened: serial settings. -/
import Derived.Test.YthgapllfjllnfaaRows
import Derived.Test.YthgapllfjllnfaaOpen
set_option linter.unusedVariables false
set_option linter.unusedSimpArgs false
namespace Go.Proofs.Ythgapllfjllnfaa
open Go.ChangeShapes Go.WideShapes Go.RowKit Go.Deep Go.Joins
theorem cs_int : Try.prog.cellsOf 3 = 1 := by kernel_rfl
theorem cs_setting : Try.prog.cellsOf 23 = 2 := by kernel_rfl
section
variable {H : Type} {enc : TypeId × Value → H} {w : World} {base : Nat} {spare : Nat → Bool} {held : Bool}
theorem trod_setting {n : Nat} {cs : List Value} {y : DataW H × List MemPlace} (h : DataW.trod enc Try.prog w base spare held n 23 cs = some y) :
    ∃ s : Int × Int, cs = [.int .i64 s.1, .int .i64 s.2] ∧ (Lit.int .i64 s.1).wf = true ∧ (Lit.int .i64 s.2).wf = true := by
  obtain ⟨hl, hf⟩ := struct_field Try.underlying23 h
  rw [cs_setting] at hl
  match cs, hl with
  | [c0, c1], _ =>
    obtain ⟨n0, y0, h0⟩ := hf 0 _ rfl
    obtain ⟨n1, y1, h1⟩ := hf 1 _ rfl
    simp only [cs_int, List.getElem_toArray, List.getElem_cons_zero, List.getElem_cons_succ, List.drop, List.take] at h0 h1
    obtain ⟨a, e0, w0⟩ := trod_intk Try.underlying3 h0
    obtain ⟨b, e1, w1⟩ := trod_intk Try.underlying3 h1
    simp only [List.cons.injEq, and_true] at e0 e1
    subst e0; subst e1
    exact ⟨(a, b), rfl, w0, w1⟩
theorem open_setting {r : Reach} {b0 : Nat} {v : Value} {d : DataW H} {p : List MemPlace} (hv : Value.okWide Try.prog w r b0 23 v) (h : DataW.Trod enc Try.prog w base spare held 23 v d p) :
    ∃ b q : Int, v = .agg #[.int .i64 b, .int .i64 q] ∧ (Lit.int .i64 b).wf = true ∧ (Lit.int .i64 q).wf = true := by
  obtain ⟨cs, rfl, hsz⟩ := okWide_struct Try.underlying23 hv
  obtain ⟨fuel, hf0⟩ := h
  obtain ⟨s, e, w0, w1⟩ := trod_setting hf0
  obtain ⟨l⟩ := cs
  simp only [Value.cells] at e
  subst e
  exact ⟨s.1, s.2, rfl, w0, w1⟩
end
end Go.Proofs.Ythgapllfjllnfaa
