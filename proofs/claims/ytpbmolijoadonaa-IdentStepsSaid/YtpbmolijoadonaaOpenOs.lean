/- Arguments opened: a slice of outcomes. -/
import Derived.Test.YtpbmolijoadonaaOc
import Derived.Test.YtpbmolijoadonaaOpenO
set_option linter.unusedVariables false
set_option linter.unusedSimpArgs false
namespace Go.Proofs.Ytpbmolijoadonaa
open Go.ChangeShapes Go.WideShapes Go.RowKit Go.Deep Go.Joins

section
variable {H : Type} {enc : TypeId × Value → H} {w : World} {base : Nat} {spare : Nat → Bool} {held : Bool}
theorem trod_outcome {n : Nat} {cs : List Value} {y : DataW H × List MemPlace} (h : DataW.trod enc Try.prog w base spare held n 44 cs = some y) : ∃ o : Oc, cs = ocRow o ∧ o.ok w w.heap.size := by
  obtain ⟨hl, hf⟩ := struct_field Try.underlying44 h
  rw [c_outcome] at hl
  match cs, hl with
  | [c0, c1, c2, c3, c4, c5, c6, c7, c8], _ =>
    obtain ⟨n0, y0, h0⟩ := hf 0 _ rfl
    obtain ⟨n1, y1, h1⟩ := hf 1 _ rfl
    simp only [c_int, c_reply, List.getElem_toArray, List.getElem_cons_zero, List.getElem_cons_succ, List.drop, List.take] at h0 h1
    obtain ⟨V, e0, w0⟩ := trod_intk Try.underlying3 h0
    obtain ⟨F, E, C, L, N, M, dA, dn, dc, xs, oA, oc, os, e1, r1, r2, r3, r4, r5, r6, r7, r8, r9, r10, r11, r12, r13⟩ := trod_reply h1
    simp only [List.cons.injEq, and_true] at e0 e1
    obtain ⟨rfl, rfl, rfl, rfl, rfl, rfl, rfl, rfl⟩ := e1
    subst e0
    exact ⟨⟨V, F, E, dA, dn, dc, C, L, M, N, oA, oc, xs, os⟩, rfl, r3, r1, r2, r5, r6, r7, r8, r4, w0, r9, r10, r11, r12, r13⟩
theorem open_outcomes {r : Reach} {b0 : Nat} {v : Value} {d : DataW H} {p : List MemPlace} (hv : Value.okWide Try.prog w r b0 22 v) (h : DataW.Trod enc Try.prog w base spare held 22 v d p) :
    ∃ (A : Option Addr) (c : Nat) (l : List Oc), v = .slice A l.length c ∧ l.length ≤ c ∧ c ≤ maxLen ∧ (∀ o ∈ l, o.ok w w.heap.size) ∧ Rd w w.heap.size 9 A l.length (ocCells l) := by
  obtain ⟨A, c, l, e, h1, h2, h3, _, h4⟩ := open_list (size := 9) ocRow (fun o => o.ok w w.heap.size) Try.underlying22 c_outcome (by decide) (fun n cs y h => trod_outcome h) hv h
  exact ⟨A, c, l, e, h1, h2, h3, h4⟩
end
end Go.Proofs.Ytpbmolijoadonaa
