/- Arguments opened: requests. -/
import Derived.Test.YtiebgbdnbfahoaaRows
import Derived.Test.YtiebgbdnbfahoaaOpen
set_option linter.unusedVariables false
set_option linter.unusedSimpArgs false
namespace Go.Proofs.Ytiebgbdnbfahoaa
open Go.ChangeShapes Go.WideShapes Go.RowKit Go.Deep Go.Joins
theorem cs_int : Try.prog.cellsOf 3 = 1 := by kernel_rfl
theorem cs_request : Try.prog.cellsOf 23 = 5 := by kernel_rfl
section
variable {H : Type} {enc : TypeId × Value → H} {w : World} {base : Nat} {spare : Nat → Bool} {held : Bool}
theorem trod_request {n : Nat} {cs : List Value} {y : DataW H × List MemPlace} (h : DataW.trod enc Try.prog w base spare held n 23 cs = some y) :
    ∃ a b c d e : Int, cs = [.int .i64 a, .int .i64 b, .int .i64 c, .int .i64 d, .int .i64 e] := by
  obtain ⟨hl, hf⟩ := struct_field Try.underlying23 h
  rw [cs_request] at hl
  match cs, hl with
  | [c0, c1, c2, c3, c4], _ =>
    obtain ⟨n0, y0, h0⟩ := hf 0 _ rfl
    obtain ⟨n1, y1, h1⟩ := hf 1 _ rfl
    obtain ⟨n2, y2, h2⟩ := hf 2 _ rfl
    obtain ⟨n3, y3, h3⟩ := hf 3 _ rfl
    obtain ⟨n4, y4, h4⟩ := hf 4 _ rfl
    simp only [cs_int, List.getElem_toArray, List.getElem_cons_zero, List.getElem_cons_succ, List.drop, List.take] at h0 h1 h2 h3 h4
    obtain ⟨a, e0, _⟩ := trod_intk Try.underlying3 h0
    obtain ⟨b, e1, _⟩ := trod_intk Try.underlying3 h1
    obtain ⟨c, e2, _⟩ := trod_intk Try.underlying3 h2
    obtain ⟨d, e3, _⟩ := trod_intk Try.underlying3 h3
    obtain ⟨e, e4, _⟩ := trod_intk Try.underlying3 h4
    simp only [List.cons.injEq, and_true] at e0 e1 e2 e3 e4
    subst e0; subst e1; subst e2; subst e3; subst e4
    exact ⟨a, b, c, d, e, rfl⟩
theorem open_request {r : Reach} {b0 : Nat} {v : Value} {d : DataW H} {p : List MemPlace} (hv : Value.okWide Try.prog w r b0 23 v) (h : DataW.Trod enc Try.prog w base spare held 23 v d p) :
    ∃ a b c d e : Int, v = .agg #[.int .i64 a, .int .i64 b, .int .i64 c, .int .i64 d, .int .i64 e] := by
  obtain ⟨cs, rfl, hsz⟩ := okWide_struct Try.underlying23 hv
  obtain ⟨fuel, hf0⟩ := h
  obtain ⟨a, b, c, d, e, he⟩ := trod_request hf0
  obtain ⟨l⟩ := cs
  simp only [Value.cells] at he
  subst he
  exact ⟨a, b, c, d, e, rfl⟩
end
end Go.Proofs.Ytiebgbdnbfahoaa
