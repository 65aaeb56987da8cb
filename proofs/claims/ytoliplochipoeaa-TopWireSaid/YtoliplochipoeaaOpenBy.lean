/- Arguments opened: slices of bytes (for seats whose texts import Bytes; a copy of XOpenB). -/
import Derived.Test.YtoliplochipoeaaBytes
import Derived.Test.YtoliplochipoeaaOpen
set_option linter.unusedVariables false
set_option linter.unusedSimpArgs false
set_option maxRecDepth 100000
namespace Go.Proofs.Ytoliplochipoeaa
open Go.ChangeShapes Go.WideShapes Go.RowKit Go.Deep Go.Joins
theorem c_u8 : Try.prog.cellsOf 5 = 1 := by kernel_rfl
section
variable {H : Type} {enc : TypeId × Value → H} {w : World} {base : Nat} {spare : Nat → Bool} {held : Bool}
theorem trod_bytes {n : Nat} {cs : List Value} {y : DataW H × List MemPlace} (h : DataW.trod enc Try.prog w base spare held n 22 cs = some y) :
    ∃ (A : Option Addr) (n c : Nat) (xs : List Int), cs = [.slice A n c] ∧ n ≤ c ∧ c ≤ maxLen ∧ Rd w w.heap.size 1 A n (by8 xs) ∧ ∀ x ∈ xs, 0 ≤ x ∧ x ≤ 255 := by
  obtain ⟨A, c, xs, rfl, hl, hm, hx, hR⟩ := trod_list (size := 1) (fun x : Int => [Value.int .u8 x]) (fun x => (Lit.int .u8 x).wf = true) Try.underlying22 c_u8 (by decide) (fun n cs y h => trod_intk Try.underlying5 h) h
  rw [flatten_one] at hR
  exact ⟨A, _, c, xs, rfl, hl, hm, hR, fun x h => wf_u8 (hx x h)⟩
theorem open_bytes {r : Reach} {b0 : Nat} {v : Value} {d : DataW H} {p : List MemPlace} (hv : Value.okWide Try.prog w r b0 22 v) (h : DataW.Trod enc Try.prog w base spare held 22 v d p) :
    ∃ (A : Option Addr) (n c : Nat) (xs : List Int), v = .slice A n c ∧ n ≤ c ∧ c ≤ maxLen ∧ Rd w w.heap.size 1 A n (by8 xs) ∧ ∀ x ∈ xs, 0 ≤ x ∧ x ≤ 255 := by
  obtain ⟨a0, len, cap, rfl⟩ := okWide_slice Try.underlying22 hv
  obtain ⟨fuel, hf⟩ := h
  obtain ⟨A, n, c, xs, hcs, r⟩ := trod_bytes hf
  simp only [Value.cells, List.cons.injEq, Value.slice.injEq, and_true] at hcs
  obtain ⟨rfl, rfl, rfl⟩ := hcs
  exact ⟨_, _, _, xs, rfl, r⟩
end
end Go.Proofs.Ytoliplochipoeaa
