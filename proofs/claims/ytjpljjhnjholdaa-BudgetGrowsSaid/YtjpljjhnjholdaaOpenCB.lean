/- Arguments opened: a configuration. -/
import Derived.Test.YtjpljjhnjholdaaRows
import Derived.Test.YtjpljjhnjholdaaCfgB
import Derived.Test.YtjpljjhnjholdaaOpenS
set_option linter.unusedVariables false
set_option linter.unusedSimpArgs false
namespace Go.Proofs.Ytjpljjhnjholdaa
open Go.ChangeShapes Go.WideShapes Go.RowKit Go.Deep Go.Joins
theorem cs_range : Try.prog.cellsOf 30 = 2 := by kernel_rfl
theorem cs_ranges : Try.prog.cellsOf 31 = 8 := by kernel_rfl
theorem cs_settings : Try.prog.cellsOf 28 = 1 := by kernel_rfl
theorem cs_config : Try.prog.cellsOf 33 = 16 := by kernel_rfl
section
variable {H : Type} {enc : TypeId × Value → H} {w : World} {base : Nat} {spare : Nat → Bool} {held : Bool}
theorem trod_range {n : Nat} {cs : List Value} {y : DataW H × List MemPlace} (h : DataW.trod enc Try.prog w base spare held n 30 cs = some y) :
    ∃ a b : Int, cs = [.int .i64 a, .int .i64 b] := by
  obtain ⟨hl, hf⟩ := struct_field Try.underlying30 h
  rw [cs_range] at hl
  match cs, hl with
  | [c0, c1], _ =>
    obtain ⟨n0, y0, h0⟩ := hf 0 _ rfl
    obtain ⟨n1, y1, h1⟩ := hf 1 _ rfl
    simp only [cs_int, List.getElem_toArray, List.getElem_cons_zero, List.getElem_cons_succ, List.drop, List.take] at h0 h1
    obtain ⟨a, e0, w0⟩ := trod_intk Try.underlying3 h0
    obtain ⟨b, e1, w1⟩ := trod_intk Try.underlying3 h1
    simp only [List.cons.injEq, and_true] at e0 e1
    subst e0; subst e1
    exact ⟨a, b, rfl⟩
theorem trod_ranges {n : Nat} {cs : List Value} {y : DataW H × List MemPlace} (h : DataW.trod enc Try.prog w base spare held n 31 cs = some y) :
    ∃ a0 b0 a1 b1 a2 b2 a3 b3 : Int, cs = [.int .i64 a0, .int .i64 b0, .int .i64 a1, .int .i64 b1, .int .i64 a2, .int .i64 b2, .int .i64 a3, .int .i64 b3] := by
  obtain ⟨xs, m, _, _, hl, hxl, hf⟩ := DataW.trod_array Try.underlying31 h
  rw [cs_ranges] at hl
  simp only [cs_range] at hf
  match cs, hl with
  | [d0, d1, d2, d3, d4, d5, d6, d7], _ =>
    have key : ∀ i, i < 4 → ∃ y, DataW.trod enc Try.prog w base spare held m 30 (List.take 2 (List.drop (i * 2) [d0, d1, d2, d3, d4, d5, d6, d7])) = some y := fun i hi => ⟨xs[i]'(by omega), (hf i hi).trans (List.getElem?_eq_getElem (by omega))⟩
    obtain ⟨y0, h0⟩ := key 0 (by omega)
    obtain ⟨y1, h1⟩ := key 1 (by omega)
    obtain ⟨y2, h2⟩ := key 2 (by omega)
    obtain ⟨y3, h3⟩ := key 3 (by omega)
    simp only [List.drop, List.take] at h0 h1 h2 h3
    obtain ⟨a0, b0, e0⟩ := trod_range h0
    obtain ⟨a1, b1, e1⟩ := trod_range h1
    obtain ⟨a2, b2, e2⟩ := trod_range h2
    obtain ⟨a3, b3, e3⟩ := trod_range h3
    simp only [List.cons.injEq, and_true] at e0 e1 e2 e3
    obtain ⟨rfl, rfl⟩ := e0
    obtain ⟨rfl, rfl⟩ := e1
    obtain ⟨rfl, rfl⟩ := e2
    obtain ⟨rfl, rfl⟩ := e3
    exact ⟨a0, b0, a1, b1, a2, b2, a3, b3, rfl⟩
theorem open_config {r : Reach} {b0 : Nat} {v : Value} {d : DataW H} {p : List MemPlace} (hv : Value.okWide Try.prog w r b0 33 v) (h : DataW.Trod enc Try.prog w base spare held 33 v d p) :
    ∃ (A : Option Addr) (c : Nat) (x : Cf), v = cfV A x.ss.length c x ∧ x.ss.length ≤ c ∧ c ≤ maxLen ∧ Rd w w.heap.size 2 A x.ss.length (stCells x.ss) ∧ (∀ s ∈ x.ss, (Lit.int .i64 s.1).wf = true ∧ (Lit.int .i64 s.2).wf = true) := by
  obtain ⟨cs, rfl, hsz⟩ := okWide_struct Try.underlying33 hv
  obtain ⟨fuel, hf0⟩ := h
  obtain ⟨hl, hf⟩ := struct_field Try.underlying33 hf0
  rw [cs_config] at hl
  obtain ⟨l⟩ := cs
  simp only [Value.cells] at hl hf
  match l, hl with
  | [c0, c1, c2, c3, c4, c5, c6, c7, c8, c9, c10, c11, c12, c13, c14, c15], _ =>
    obtain ⟨n0, y0, h0⟩ := hf 0 _ rfl
    obtain ⟨n1, y1, h1⟩ := hf 1 _ rfl
    obtain ⟨n2, y2, h2⟩ := hf 2 _ rfl
    obtain ⟨n3, y3, h3⟩ := hf 3 _ rfl
    obtain ⟨n4, y4, h4⟩ := hf 4 _ rfl
    obtain ⟨n5, y5, h5⟩ := hf 5 _ rfl
    obtain ⟨n6, y6, h6⟩ := hf 6 _ rfl
    obtain ⟨n7, y7, h7⟩ := hf 7 _ rfl
    obtain ⟨n8, y8, h8⟩ := hf 8 _ rfl
    simp only [cs_int, cs_ranges, cs_settings, List.getElem_toArray, List.getElem_cons_zero, List.getElem_cons_succ, List.drop, List.take] at h0 h1 h2 h3 h4 h5 h6 h7 h8
    obtain ⟨A, c, xs, e0, hlc, hc, hR, hrd⟩ := trod_list (size := 2) stRow (fun s => (Lit.int .i64 s.1).wf = true ∧ (Lit.int .i64 s.2).wf = true) Try.underlying28 (by kernel_rfl) (by decide) (fun n cs y h => trod_setting h) h0
    obtain ⟨fi, e1, w1⟩ := trod_intk Try.underlying3 h1
    obtain ⟨la, e2, w2⟩ := trod_intk Try.underlying3 h2
    obtain ⟨re, e3, w3⟩ := trod_intk Try.underlying3 h3
    obtain ⟨ti, e4, w4⟩ := trod_intk Try.underlying3 h4
    obtain ⟨de, e5, w5⟩ := trod_intk Try.underlying3 h5
    obtain ⟨a0, b0', a1, b1, a2, b2, a3, b3, e6⟩ := trod_ranges h6
    obtain ⟨ev, e7, w7⟩ := trod_intk Try.underlying3 h7
    obtain ⟨st, e8, w8⟩ := trod_intk Try.underlying3 h8
    simp only [List.cons.injEq, and_true] at e0 e1 e2 e3 e4 e5 e6 e7 e8
    obtain ⟨rfl, rfl, rfl, rfl, rfl, rfl, rfl, rfl⟩ := e6
    subst e0; subst e1; subst e2; subst e3; subst e4; subst e5; subst e7; subst e8
    exact ⟨A, c, ⟨xs, fi, la, re, ti, de, a0, b0', a1, b1, a2, b2, a3, b3, ev, st⟩, rfl, hlc, hc, hrd, hR⟩
end
end Go.Proofs.Ytjpljjhnjholdaa
