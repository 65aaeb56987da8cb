/- Contracts of the reference's functions for characters (layer 7): ones, Encode, Decode; of the law's own 'same'. -/
import Derived.Test.YtoliplochipoeaaTUartD
set_option linter.unusedVariables false
set_option linter.unusedSimpArgs false
namespace Go.Proofs.Ytoliplochipoeaa
open Go.RowKit

def onesOf (l : List Bool) (k : Nat) : Nat := ((l.take k).filter id).length
theorem onesOf_succ (l : List Bool) (k : Nat) (h : k < l.length) : onesOf l (k + 1) = onesOf l k + (if bt l k then 1 else 0) := by
  unfold onesOf
  rw [List.take_succ_eq_append_getElem h, List.filter_append]
  have : bt l k = l[k] := by simp [bt, List.getD, List.getElem?_eq_getElem h]
  rw [this]
  cases l[k] <;> simp

theorem ones_bits (b : Nat) (hb : b ≤ 255) : (onesOf (false :: bitsOf b 8) 9) % 2 = if pb b then 1 else 0 := by
  have : ∀ b : Fin 256, (onesOf (false :: bitsOf b 8) 9) % 2 = if pb b then 1 else 0 := by decide +kernel
  exact this ⟨b, by omega⟩

theorem same_list (a b : List Bool) (hl : a.length = b.length) (k : Nat) (hk : k < a.length) (h : a.take k = b.take k) : (a.take (k + 1) = b.take (k + 1)) ↔ bt a k = bt b k := by
  have hk' : k < b.length := hl ▸ hk
  rw [List.take_succ_eq_append_getElem hk, List.take_succ_eq_append_getElem hk', h, List.append_cancel_left_eq]
  simp [bt, List.getD, List.getElem?_eq_getElem hk, List.getElem?_eq_getElem (hl ▸ hk)]

end Go.Proofs.Ytoliplochipoeaa
