/- Arguments opened: a slave. -/
import Derived.Test.YtipcnpnfdoainaaSlA
import Derived.Test.YtipcnpnfdoainaaOpenO
set_option linter.unusedVariables false
set_option linter.unusedSimpArgs false
namespace Go.Proofs.Ytipcnpnfdoainaa
open Go.ChangeShapes Go.WideShapes Go.RowKit Go.Deep Go.Joins
theorem c_setting : Try.prog.cellsOf 48 = 2 := by kernel_rfl
theorem c_range : Try.prog.cellsOf 83 = 2 := by kernel_rfl
theorem c_ranges : Try.prog.cellsOf 49 = 1 := by kernel_rfl
theorem c_table : Try.prog.cellsOf 51 = 3 := by kernel_rfl
theorem c_tables : Try.prog.cellsOf 52 = 12 := by kernel_rfl
theorem c_slave : Try.prog.cellsOf 54 = 19 := by kernel_rfl
section
variable {H : Type} {enc : TypeId × Value → H} {w : World} {base : Nat} {spare : Nat → Bool} {held : Bool}
theorem trod_setting {n : Nat} {cs : List Value} {y : DataW H × List MemPlace} (h : DataW.trod enc Try.prog w base spare held n 48 cs = some y) :
    ∃ a b : Int, cs = [.int .i64 a, .int .i64 b] := by
  obtain ⟨hl, hf⟩ := struct_field Try.underlying48 h
  rw [c_setting] at hl
  match cs, hl with
  | [c0, c1], _ =>
    obtain ⟨n0, y0, h0⟩ := hf 0 _ rfl
    obtain ⟨n1, y1, h1⟩ := hf 1 _ rfl
    simp only [c_int, List.getElem_toArray, List.getElem_cons_zero, List.getElem_cons_succ, List.drop, List.take] at h0 h1
    obtain ⟨a, e0, w0⟩ := trod_intk Try.underlying3 h0
    obtain ⟨b, e1, w1⟩ := trod_intk Try.underlying3 h1
    simp only [List.cons.injEq, and_true] at e0 e1
    subst e0; subst e1
    exact ⟨a, b, rfl⟩
theorem trod_range {n : Nat} {cs : List Value} {y : DataW H × List MemPlace} (h : DataW.trod enc Try.prog w base spare held n 83 cs = some y) :
    ∃ r : Rg, cs = rgRow r ∧ True := by
  obtain ⟨hl, hf⟩ := struct_field Try.underlying83 h
  rw [c_range] at hl
  match cs, hl with
  | [c0, c1], _ =>
    obtain ⟨n0, y0, h0⟩ := hf 0 _ rfl
    obtain ⟨n1, y1, h1⟩ := hf 1 _ rfl
    simp only [c_int, List.getElem_toArray, List.getElem_cons_zero, List.getElem_cons_succ, List.drop, List.take] at h0 h1
    obtain ⟨a, e0, w0⟩ := trod_intk Try.underlying3 h0
    obtain ⟨b, e1, w1⟩ := trod_intk Try.underlying3 h1
    simp only [List.cons.injEq, and_true] at e0 e1
    subst e0; subst e1
    exact ⟨(a, b), rfl, trivial⟩
theorem trod_table {n : Nat} {cs : List Value} {y : DataW H × List MemPlace} (h : DataW.trod enc Try.prog w base spare held n 51 cs = some y) :
    ∃ t : Tb, cs = [.bool t.sup, .slice t.A t.n t.c, .int .i64 t.most] ∧ Rd w w.heap.size 2 t.A t.n (rgCells t.rs) := by
  obtain ⟨hl, hf⟩ := struct_field Try.underlying51 h
  rw [c_table] at hl
  match cs, hl with
  | [c0, c1, c2], _ =>
    obtain ⟨n0, y0, h0⟩ := hf 0 _ rfl
    obtain ⟨n1, y1, h1⟩ := hf 1 _ rfl
    obtain ⟨n2, y2, h2⟩ := hf 2 _ rfl
    simp only [c_int, c_bool, c_ranges, List.getElem_toArray, List.getElem_cons_zero, List.getElem_cons_succ, List.drop, List.take] at h0 h1 h2
    obtain ⟨s, e0, _⟩ := trod_bool Try.underlying4 h0
    obtain ⟨A, c, xs, e1, hlc, hcm, _, hR⟩ := trod_list (size := 2) rgRow (fun _ => True) Try.underlying49 c_range (by decide) (fun n cs y h => trod_range h) h1
    obtain ⟨m, e2, _⟩ := trod_intk Try.underlying3 h2
    simp only [List.cons.injEq, and_true] at e0 e1 e2
    subst e0; subst e1; subst e2
    exact ⟨⟨s, A, xs.length, c, xs, m⟩, rfl, hR⟩
theorem trod_tables {n : Nat} {cs : List Value} {y : DataW H × List MemPlace} (h : DataW.trod enc Try.prog w base spare held n 52 cs = some y) :
    ∃ tb : Nat → Tb, cs = [.bool (tb 0).sup, .slice (tb 0).A (tb 0).n (tb 0).c, .int .i64 (tb 0).most, .bool (tb 1).sup, .slice (tb 1).A (tb 1).n (tb 1).c, .int .i64 (tb 1).most, .bool (tb 2).sup, .slice (tb 2).A (tb 2).n (tb 2).c, .int .i64 (tb 2).most, .bool (tb 3).sup, .slice (tb 3).A (tb 3).n (tb 3).c, .int .i64 (tb 3).most] ∧ ∀ k, k < 4 → Rd w w.heap.size 2 (tb k).A (tb k).n (rgCells (tb k).rs) := by
  obtain ⟨xs, m, _, _, hl, hxl, hf⟩ := DataW.trod_array Try.underlying52 h
  rw [c_tables] at hl
  simp only [c_table] at hf
  match cs, hl with
  | [d0, d1, d2, d3, d4, d5, d6, d7, d8, d9, d10, d11], _ =>
    have key : ∀ i, i < 4 → ∃ y, DataW.trod enc Try.prog w base spare held m 51 (List.take 3 (List.drop (i * 3) [d0, d1, d2, d3, d4, d5, d6, d7, d8, d9, d10, d11])) = some y := fun i hi => ⟨xs[i]'(by omega), (hf i hi).trans (List.getElem?_eq_getElem (by omega))⟩
    obtain ⟨y0, h0⟩ := key 0 (by omega)
    obtain ⟨y1, h1⟩ := key 1 (by omega)
    obtain ⟨y2, h2⟩ := key 2 (by omega)
    obtain ⟨y3, h3⟩ := key 3 (by omega)
    simp only [List.drop, List.take] at h0 h1 h2 h3
    obtain ⟨t0, e0, r0⟩ := trod_table h0
    obtain ⟨t1, e1, r1⟩ := trod_table h1
    obtain ⟨t2, e2, r2⟩ := trod_table h2
    obtain ⟨t3, e3, r3⟩ := trod_table h3
    simp only [List.cons.injEq, and_true] at e0 e1 e2 e3
    obtain ⟨rfl, rfl, rfl⟩ := e0
    obtain ⟨rfl, rfl, rfl⟩ := e1
    obtain ⟨rfl, rfl, rfl⟩ := e2
    obtain ⟨rfl, rfl, rfl⟩ := e3
    refine ⟨fun k => match k with | 0 => t0 | 1 => t1 | 2 => t2 | _ => t3, rfl, fun k hk => ?_⟩
    match k, hk with
    | 0, _ => exact r0
    | 1, _ => exact r1
    | 2, _ => exact r2
    | 3, _ => exact r3
theorem open_slave {r : Reach} {b0 : Nat} {v : Value} {d : DataW H} {p : List MemPlace} (hv : Value.okWide Try.prog w r b0 54 v) (h : DataW.Trod enc Try.prog w base spare held 54 v d p) :
    ∃ S : Sl, v = slV S ∧ S.ok w w.heap.size ∧ S.on_ ≤ maxLen ∧ S.on_ ≤ S.oc ∧ S.oc ≤ maxLen := by
  obtain ⟨cs, rfl, hsz⟩ := okWide_struct Try.underlying54 hv
  obtain ⟨fuel, hf0⟩ := h
  obtain ⟨hl, hf⟩ := struct_field Try.underlying54 hf0
  rw [c_slave] at hl
  obtain ⟨l⟩ := cs
  simp only [Value.cells] at hl hf
  match l, hl with
  | [c0, c1, c2, c3, c4, c5, c6, c7, c8, c9, c10, c11, c12, c13, c14, c15, c16, c17, c18], _ =>
    obtain ⟨n0, y0, h0⟩ := hf 0 _ rfl
    obtain ⟨n1, y1, h1⟩ := hf 1 _ rfl
    obtain ⟨n2, y2, h2⟩ := hf 2 _ rfl
    obtain ⟨n3, y3, h3⟩ := hf 3 _ rfl
    obtain ⟨n4, y4, h4⟩ := hf 4 _ rfl
    obtain ⟨n5, y5, h5⟩ := hf 5 _ rfl
    obtain ⟨n6, y6, h6⟩ := hf 6 _ rfl
    simp only [c_int, c_bytes, c_bool, c_objs, c_setting, c_tables, List.getElem_toArray, List.getElem_cons_zero, List.getElem_cons_succ, List.drop, List.take] at h0 h1 h2 h3 h4 h5 h6
    obtain ⟨a, b, e0⟩ := trod_setting h0
    obtain ⟨u, e1, w1⟩ := trod_intk Try.underlying3 h1
    obtain ⟨tb, e2, hT⟩ := trod_tables h2
    obtain ⟨lv, e3, w3⟩ := trod_intk Try.underlying3 h3
    obtain ⟨oA, oc, os, e4, hoc, hom, hos, hRo⟩ := trod_objs h4
    obtain ⟨hs, e5, _⟩ := trod_bool Try.underlying4 h5
    obtain ⟨sA, sn, sc, xs, e6, hnc, hdm, hR, hx⟩ := trod_bytes h6
    simp only [List.cons.injEq, and_true] at e0 e1 e2 e3 e4 e5 e6
    obtain ⟨rfl, rfl⟩ := e0
    obtain ⟨rfl, rfl, rfl, rfl, rfl, rfl, rfl, rfl, rfl, rfl, rfl, rfl⟩ := e2
    subst e1; subst e3; subst e4; subst e5; subst e6
    exact ⟨⟨a, b, u, tb, lv, oA, os.length, oc, os, hs, sA, sn, sc, xs⟩, rfl, ⟨hT, hRo, hos, hR⟩, Nat.le_trans hoc hom, hoc, hom⟩
end
end Go.Proofs.Ytipcnpnfdoainaa
