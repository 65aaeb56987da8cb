/- Arguments opened: a list of characters. -/
import Derived.Test.YthgapllfjllnfaaOpenS
import Derived.Test.YthgapllfjllnfaaRcvF
set_option linter.unusedVariables false
set_option linter.unusedSimpArgs false
namespace Go.Proofs.Ythgapllfjllnfaa
open Go.ChangeShapes Go.WideShapes Go.RowKit Go.Deep Go.Joins
theorem cs_u8 : Try.prog.cellsOf 5 = 1 := by kernel_rfl
theorem cs_event : Try.prog.cellsOf 42 = 3 := by kernel_rfl
section
variable {H : Type} {enc : TypeId × Value → H} {w : World} {base : Nat} {spare : Nat → Bool} {held : Bool}
theorem trod_event {n : Nat} {cs : List Value} {y : DataW H × List MemPlace} (h : DataW.trod enc Try.prog w base spare held n 42 cs = some y) :
    ∃ s : Ev, cs = [.int .i64 s.at_, .int .u8 s.val, .int .i64 s.fl] := by
  obtain ⟨hl, hf⟩ := struct_field Try.underlying42 h
  rw [cs_event] at hl
  match cs, hl with
  | [c0, c1, c2], _ =>
    obtain ⟨n0, y0, h0⟩ := hf 0 _ rfl
    obtain ⟨n1, y1, h1⟩ := hf 1 _ rfl
    obtain ⟨n2, y2, h2⟩ := hf 2 _ rfl
    simp only [cs_int, cs_u8, List.getElem_toArray, List.getElem_cons_zero, List.getElem_cons_succ, List.drop, List.take] at h0 h1 h2
    obtain ⟨a, e0, w0⟩ := trod_intk Try.underlying3 h0
    obtain ⟨b, e1, w1⟩ := trod_intk Try.underlying5 h1
    obtain ⟨c, e2, w2⟩ := trod_intk Try.underlying3 h2
    simp only [List.cons.injEq, and_true] at e0 e1 e2
    subst e0; subst e1; subst e2
    exact ⟨⟨a, b, c⟩, rfl⟩
theorem open_events {r : Reach} {b0 : Nat} {v : Value} {d : DataW H} {p : List MemPlace} (hv : Value.okWide Try.prog w r b0 24 v) (h : DataW.Trod enc Try.prog w base spare held 24 v d p) :
    ∃ A c, ∃ xs : List Ev, v = .slice A xs.length c ∧ xs.length ≤ c ∧ c ≤ maxLen ∧ Rd w w.heap.size 3 A xs.length (evCells xs) := by
  obtain ⟨A, c, xs, hv, h1, h2, _, _, h3⟩ := open_list (fun e : Ev => [Value.int .i64 e.at_, .int .u8 e.val, .int .i64 e.fl]) (fun _ => True) Try.underlying24 cs_event (by decide)
    (fun n cs y h => by obtain ⟨s, e⟩ := trod_event h; exact ⟨s, e, trivial⟩) hv h
  exact ⟨A, c, xs, hv, h1, h2, h3⟩
end
end Go.Proofs.Ythgapllfjllnfaa
