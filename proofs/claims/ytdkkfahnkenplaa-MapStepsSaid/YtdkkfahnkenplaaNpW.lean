/- The law MapSteps: its arguments opened. -/
import Derived.Test.YtdkkfahnkenplaaNpE
import Derived.Test.YtdkkfahnkenplaaOpen
set_option linter.unusedVariables false
set_option linter.unusedSimpArgs false
namespace Go.Proofs.Ytdkkfahnkenplaa
open Go.ChangeShapes Go.WideShapes Go.RowKit Go.Deep Go.Joins
theorem mapSteps_any (tb fs N M : Int) (xs : List Int) (A : Option Addr) (n c : Nat) (w : World) (hN : -9223372036854775808 ≤ N ∧ N ≤ 9223372036854775807) (hr : Rd w w.heap.size 1 A n (rints xs)) (hm : n ≤ maxLen) :
    Calls Try.prog 3 #[.int .i64 tb, .agg #[.int .i64 fs, .int .i64 N], .int .i64 M, .slice A n c] w fun e w' => e = .returned (.bool true) ∧ Below w.heap.size w w' := by
  cases hok : newOk tb fs N M
  · exact mapSteps_no tb fs N M A n c w hok hN
  · obtain ⟨b1, b2, b3, b4, b5, b6, b7, b8⟩ := of_decide_eq_true hok
    obtain ⟨N', rfl⟩ : ∃ k : Nat, N = k := ⟨N.toNat, by omega⟩
    obtain ⟨M', rfl⟩ : ∃ k : Nat, M = k := ⟨M.toNat, by omega⟩
    exact mapSteps_yes tb fs N' M' xs A n c w hok hr hm
theorem cs_int : Try.prog.cellsOf 3 = 1 := by kernel_rfl
theorem cs_range : Try.prog.cellsOf 23 = 2 := by kernel_rfl
theorem rints_flat (xs : List Int) : (xs.map fun x => [Value.int .i64 x]).flatten = rints xs := by
  induction xs with
  | nil => rfl
  | cons y t ih => simp only [List.map_cons, List.flatten_cons, ih]; rfl
section
variable {H : Type} {enc : TypeId × Value → H} {w : World} {base : Nat} {spare : Nat → Bool} {held : Bool}
theorem trod_range {n : Nat} {cs : List Value} {y : DataW H × List MemPlace} (h : DataW.trod enc Try.prog w base spare held n 23 cs = some y) :
    ∃ a b : Int, cs = [.int .i64 a, .int .i64 b] ∧ (Lit.int .i64 a).wf = true ∧ (Lit.int .i64 b).wf = true := by
  obtain ⟨hl, hf⟩ := struct_field Try.underlying23 h
  rw [cs_range] at hl
  match cs, hl with
  | [c0, c1], _ =>
    obtain ⟨n0, y0, h0⟩ := hf 0 _ rfl
    obtain ⟨n1, y1, h1⟩ := hf 1 _ rfl
    simp only [cs_int, List.getElem_toArray, List.getElem_cons_zero, List.getElem_cons_succ, List.drop, List.take] at h0 h1
    obtain ⟨a, e0, w0⟩ := trod_intk Try.underlying3 h0
    obtain ⟨b, e1, w1⟩ := trod_intk Try.underlying3 h1
    simp only [List.cons.injEq, and_true] at e0 e1
    subst e0; subst e1
    exact ⟨a, b, rfl, w0, w1⟩
theorem open_range {r : Reach} {b0 : Nat} {v : Value} {d : DataW H} {p : List MemPlace} (hv : Value.okWide Try.prog w r b0 23 v) (h : DataW.Trod enc Try.prog w base spare held 23 v d p) :
    ∃ b q : Int, v = .agg #[.int .i64 b, .int .i64 q] ∧ (-9223372036854775808 ≤ b ∧ b ≤ 9223372036854775807) ∧ (-9223372036854775808 ≤ q ∧ q ≤ 9223372036854775807) := by
  obtain ⟨cs, rfl, hsz⟩ := okWide_struct Try.underlying23 hv
  obtain ⟨fuel, hf0⟩ := h
  obtain ⟨a, b, e, w0, w1⟩ := trod_range hf0
  obtain ⟨l⟩ := cs
  simp only [Value.cells] at e
  subst e
  exact ⟨a, b, rfl, wf_i64' w0, wf_i64' w1⟩
theorem open_rints {r : Reach} {b0 : Nat} {v : Value} {d : DataW H} {p : List MemPlace} (hv : Value.okWide Try.prog w r b0 24 v) (h : DataW.Trod enc Try.prog w base spare held 24 v d p) :
    ∃ A c, ∃ xs : List Int, v = .slice A xs.length c ∧ xs.length ≤ c ∧ c ≤ maxLen ∧ Rd w w.heap.size 1 A xs.length (rints xs) := by
  obtain ⟨A, c, xs, hv, h1, h2, _, _, h3⟩ := open_list (fun x : Int => [Value.int .i64 x]) (fun _ => True) Try.underlying24 cs_int (by decide)
    (fun n cs y h => by obtain ⟨s, e, _⟩ := trod_intk Try.underlying3 h; exact ⟨s, e, trivial⟩) hv h
  rw [rints_flat] at h3
  exact ⟨A, c, xs, hv, h1, h2, h3⟩
end
end Go.Proofs.Ytdkkfahnkenplaa
