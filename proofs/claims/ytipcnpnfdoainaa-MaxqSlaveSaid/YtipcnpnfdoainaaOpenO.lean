/- Arguments opened: identification objects, replies, outcomes. -/
import Derived.Test.YtipcnpnfdoainaaObj
import Derived.Test.YtipcnpnfdoainaaOpen
set_option linter.unusedVariables false
set_option linter.unusedSimpArgs false
namespace Go.Proofs.Ytipcnpnfdoainaa
open Go.ChangeShapes Go.WideShapes Go.RowKit Go.Deep Go.Joins

theorem c_int : Try.prog.cellsOf 3 = 1 := by kernel_rfl
theorem c_bool : Try.prog.cellsOf 4 = 1 := by kernel_rfl
theorem c_u8 : Try.prog.cellsOf 5 = 1 := by kernel_rfl
theorem c_bytes : Try.prog.cellsOf 40 = 1 := by kernel_rfl
theorem c_objs : Try.prog.cellsOf 41 = 1 := by kernel_rfl
theorem c_obj : Try.prog.cellsOf 76 = 2 := by kernel_rfl
theorem c_reply : Try.prog.cellsOf 43 = 8 := by kernel_rfl
theorem c_outcome : Try.prog.cellsOf 45 = 9 := by kernel_rfl

section
variable {H : Type} {enc : TypeId × Value → H} {w : World} {base : Nat} {spare : Nat → Bool} {held : Bool}
/-- A slice of bytes that came in. -/
theorem trod_bytes {n : Nat} {cs : List Value} {y : DataW H × List MemPlace} (h : DataW.trod enc Try.prog w base spare held n 40 cs = some y) :
    ∃ (A : Option Addr) (n c : Nat) (xs : List Int), cs = [.slice A n c] ∧ n ≤ c ∧ c ≤ maxLen ∧ Rd w w.heap.size 1 A n (by8 xs) ∧ ∀ x ∈ xs, (Lit.int .u8 x).wf = true := by
  obtain ⟨A, c, xs, rfl, hl, hm, hx, hR⟩ := trod_list (size := 1) (fun x : Int => [Value.int .u8 x]) (fun x => (Lit.int .u8 x).wf = true) Try.underlying40 c_u8 (by decide) (fun n cs y h => trod_intk Try.underlying5 h) h
  rw [flatten_one] at hR
  exact ⟨A, _, c, xs, rfl, hl, hm, hR, hx⟩
theorem trod_ob {n : Nat} {cs : List Value} {y : DataW H × List MemPlace} (h : DataW.trod enc Try.prog w base spare held n 76 cs = some y) : ∃ o : Ob, cs = obRow o ∧ o.ok w w.heap.size := by
  obtain ⟨hl, hf⟩ := struct_field Try.underlying76 h
  rw [c_obj] at hl
  match cs, hl with
  | [c0, c1], _ =>
    obtain ⟨n0, y0, h0⟩ := hf 0 _ rfl
    obtain ⟨n1, y1, h1⟩ := hf 1 _ rfl
    simp only [c_int, c_bytes, List.getElem_toArray, List.getElem_cons_zero, List.getElem_cons_succ, List.drop, List.take] at h0 h1
    obtain ⟨i, e0, hi⟩ := trod_intk Try.underlying3 h0
    obtain ⟨A, n, c, xs, e1, hnc, _, hR, hx⟩ := trod_bytes h1
    simp only [List.cons.injEq, and_true] at e0 e1
    subst e0; subst e1
    exact ⟨⟨i, A, n, c, xs⟩, rfl, hR, hnc, hi, hx⟩
theorem trod_objs {n : Nat} {cs : List Value} {y : DataW H × List MemPlace} (h : DataW.trod enc Try.prog w base spare held n 41 cs = some y) :
    ∃ (A : Option Addr) (c : Nat) (os : List Ob), cs = [.slice A os.length c] ∧ os.length ≤ c ∧ c ≤ maxLen ∧ (∀ o ∈ os, o.ok w w.heap.size) ∧ Rd w w.heap.size 2 A os.length (obCells os) :=
  trod_list (size := 2) obRow (fun o => o.ok w w.heap.size) Try.underlying41 c_obj (by decide) (fun n cs y h => trod_ob h) h
theorem trod_reply {n : Nat} {cs : List Value} {y : DataW H × List MemPlace} (h : DataW.trod enc Try.prog w base spare held n 43 cs = some y) :
    ∃ (F E C L N : Int) (M : Bool) (dA : Option Addr) (dn dc : Nat) (xs : List Int) (oA : Option Addr) (oc : Nat) (os : List Ob),
      cs = [.int .i64 F, .int .i64 E, .slice dA dn dc, .int .i64 C, .int .i64 L, .bool M, .int .i64 N, .slice oA os.length oc] ∧ dn ≤ dc ∧ dc ≤ maxLen ∧ Rd w w.heap.size 1 dA dn (by8 xs) ∧ (∀ x ∈ xs, (Lit.int .u8 x).wf = true) ∧
      os.length ≤ oc ∧ oc ≤ maxLen ∧ (∀ o ∈ os, o.ok w w.heap.size) ∧ Rd w w.heap.size 2 oA os.length (obCells os) ∧
      (Lit.int .i64 F).wf = true ∧ (Lit.int .i64 E).wf = true ∧ (Lit.int .i64 C).wf = true ∧ (Lit.int .i64 L).wf = true ∧ (Lit.int .i64 N).wf = true := by
  obtain ⟨hl, hf⟩ := struct_field Try.underlying43 h
  rw [c_reply] at hl
  match cs, hl with
  | [c0, c1, c2, c3, c4, c5, c6, c7], _ =>
    obtain ⟨n0, y0, h0⟩ := hf 0 _ rfl
    obtain ⟨n1, y1, h1⟩ := hf 1 _ rfl
    obtain ⟨n2, y2, h2⟩ := hf 2 _ rfl
    obtain ⟨n3, y3, h3⟩ := hf 3 _ rfl
    obtain ⟨n4, y4, h4⟩ := hf 4 _ rfl
    obtain ⟨n5, y5, h5⟩ := hf 5 _ rfl
    obtain ⟨n6, y6, h6⟩ := hf 6 _ rfl
    obtain ⟨n7, y7, h7⟩ := hf 7 _ rfl
    simp only [c_int, c_bytes, c_bool, c_objs, List.getElem_toArray, List.getElem_cons_zero, List.getElem_cons_succ, List.drop, List.take] at h0 h1 h2 h3 h4 h5 h6 h7
    obtain ⟨F, e0, w0⟩ := trod_intk Try.underlying3 h0
    obtain ⟨E, e1, w1⟩ := trod_intk Try.underlying3 h1
    obtain ⟨dA, dn, dc, xs, e2, hnc, hdm, hR, hx⟩ := trod_bytes h2
    obtain ⟨C, e3, w3⟩ := trod_intk Try.underlying3 h3
    obtain ⟨L, e4, w4⟩ := trod_intk Try.underlying3 h4
    obtain ⟨M, e5, _⟩ := trod_bool Try.underlying4 h5
    obtain ⟨N, e6, w6⟩ := trod_intk Try.underlying3 h6
    obtain ⟨oA, oc, os, e7, hoc, hom, hos, hRo⟩ := trod_objs h7
    simp only [List.cons.injEq, and_true] at e0 e1 e2 e3 e4 e5 e6 e7
    subst e0; subst e1; subst e2; subst e3; subst e4; subst e5; subst e6; subst e7
    exact ⟨F, E, C, L, N, M, dA, dn, dc, xs, oA, oc, os, rfl, hnc, hdm, hR, hx, hoc, hom, hos, hRo, w0, w1, w3, w4, w6⟩
theorem open_outcome {r : Reach} {b0 : Nat} {v : Value} {d : DataW H} {p : List MemPlace} (hv : Value.okWide Try.prog w r b0 45 v) (h : DataW.Trod enc Try.prog w base spare held 45 v d p) :
    ∃ (V F E C L N : Int) (M : Bool) (dA : Option Addr) (dn dc : Nat) (xs : List Int) (oA : Option Addr) (oc : Nat) (os : List Ob),
      v = .agg #[.int .i64 V, .int .i64 F, .int .i64 E, .slice dA dn dc, .int .i64 C, .int .i64 L, .bool M, .int .i64 N, .slice oA os.length oc] ∧ dn ≤ dc ∧ dc ≤ maxLen ∧ Rd w w.heap.size 1 dA dn (by8 xs) ∧ (∀ x ∈ xs, (Lit.int .u8 x).wf = true) ∧
      os.length ≤ oc ∧ oc ≤ maxLen ∧ (∀ o ∈ os, o.ok w w.heap.size) ∧ Rd w w.heap.size 2 oA os.length (obCells os) ∧
      (Lit.int .i64 V).wf = true ∧ (Lit.int .i64 F).wf = true ∧ (Lit.int .i64 E).wf = true ∧ (Lit.int .i64 C).wf = true ∧ (Lit.int .i64 L).wf = true ∧ (Lit.int .i64 N).wf = true := by
  obtain ⟨cs, rfl, hsz⟩ := okWide_struct Try.underlying45 hv
  obtain ⟨fuel, hf0⟩ := h
  obtain ⟨hl, hf⟩ := struct_field Try.underlying45 hf0
  rw [c_outcome] at hl
  obtain ⟨l⟩ := cs
  simp only [Value.cells] at hl hf
  match l, hl with
  | [c0, c1, c2, c3, c4, c5, c6, c7, c8], _ =>
    obtain ⟨n0, y0, h0⟩ := hf 0 _ rfl
    obtain ⟨n1, y1, h1⟩ := hf 1 _ rfl
    simp only [c_int, c_reply, List.getElem_toArray, List.getElem_cons_zero, List.getElem_cons_succ, List.drop, List.take] at h0 h1
    obtain ⟨V, e0, w0⟩ := trod_intk Try.underlying3 h0
    obtain ⟨F, E, C, L, N, M, dA, dn, dc, xs, oA, oc, os, e1, r⟩ := trod_reply h1
    simp only [List.cons.injEq, and_true] at e0 e1
    obtain ⟨rfl, rfl, rfl, rfl, rfl, rfl, rfl, rfl⟩ := e1
    subst e0
    exact ⟨V, F, E, C, L, N, M, dA, dn, dc, xs, oA, oc, os, rfl, r.1, r.2.1, r.2.2.1, r.2.2.2.1, r.2.2.2.2.1, r.2.2.2.2.2.1, r.2.2.2.2.2.2.1, r.2.2.2.2.2.2.2.1, w0, r.2.2.2.2.2.2.2.2⟩
end
end Go.Proofs.Ytipcnpnfdoainaa
