/- A box that is written. -/
import Derived.Test.YtoliplochipoeaaLib2
set_option linter.unusedVariables false
set_option linter.unusedSimpArgs false
namespace Go.Proofs.Ytoliplochipoeaa
open Go.RowKit

theorem box_set {w : World} {b k : Nat} {cs : Array Value} (v : Value) (q : ∀ i, w.cell? ⟨b, i, none⟩ = cs[i]?) (z : ∀ i, w.frozen? ⟨b, i, none⟩ = false) (l : b < w.heap.size) (hk : k < cs.size) :
    (∀ i, (w.setCell ⟨b, k, none⟩ v).cell? ⟨b, i, none⟩ = (cs.setIfInBounds k v)[i]?) ∧ (∀ i, (w.setCell ⟨b, k, none⟩ v).frozen? ⟨b, i, none⟩ = false) ∧ b < (w.setCell ⟨b, k, none⟩ v).heap.size := by
  refine ⟨fun i => ?_, fun i => (World.frozen?_setCell _ _ _ _).trans (z i), by simpa [World.setCell] using l⟩
  by_cases h : i = k
  · subst h
    have hc : w.cell? ⟨b, i, none⟩ = some cs[i] := by rw [q i]; exact Array.getElem?_eq_getElem hk
    rw [World.cell?_setCell_same _ _ _ hc]
    simp [hk]
  · rw [World.cell?_setCell_other _ _ _ _ (by intro e; injection e with _ e; omega), q i]
    rw [Array.getElem?_setIfInBounds_ne (by omega)]
end Go.Proofs.Ytoliplochipoeaa
