/- Arguments opened: a list of ints. -/
import Derived.Test.YthgapllfjllnfaaOpenE
import Derived.Test.YthgapllfjllnfaaRcvAB
set_option linter.unusedVariables false
set_option linter.unusedSimpArgs false
namespace Go.Proofs.Ythgapllfjllnfaa
open Go.ChangeShapes Go.WideShapes Go.RowKit Go.Deep Go.Joins
theorem ids_flat (xs : List Int) : (xs.map fun x => [Value.int .i64 x]).flatten = idCells xs := by
  induction xs with
  | nil => rfl
  | cons y t ih => simp only [List.map_cons, List.flatten_cons, ih]; rfl
section
variable {H : Type} {enc : TypeId × Value → H} {w : World} {base : Nat} {spare : Nat → Bool} {held : Bool}
theorem open_ids {r : Reach} {b0 : Nat} {v : Value} {d : DataW H} {p : List MemPlace} (hv : Value.okWide Try.prog w r b0 47 v) (h : DataW.Trod enc Try.prog w base spare held 47 v d p) :
    ∃ A c, ∃ xs : List Int, v = .slice A xs.length c ∧ xs.length ≤ c ∧ c ≤ maxLen ∧ Rd w w.heap.size 1 A xs.length (idCells xs) := by
  obtain ⟨A, c, xs, hv, h1, h2, _, _, h3⟩ := open_list (fun x : Int => [Value.int .i64 x]) (fun _ => True) Try.underlying47 cs_int (by decide)
    (fun n cs y h => by obtain ⟨s, e, _⟩ := trod_intk Try.underlying3 h; exact ⟨s, e, trivial⟩) hv h
  rw [ids_flat] at h3
  exact ⟨A, c, xs, hv, h1, h2, h3⟩
end
end Go.Proofs.Ythgapllfjllnfaa
