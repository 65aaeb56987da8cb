/- Contract of the reference's Decode (layer 7), and the example of the chapter. -/
import Derived.Test.YtoliplochipoeaaTUartR
import Derived.Deep.RegionHeld3
import Derived.Deep.RegionWith
set_option linter.unusedVariables false
set_option linter.unusedSimpArgs false
namespace Go.Proofs.Ytoliplochipoeaa
open Go.RowKit

theorem add_u8 (m k : Nat) (hk : k < 8) (hm : m < 2 ^ k) : IntKind.u8.wrap ((m : Int) + 2 ^ k % 256) = ((m + 2 ^ k : Nat) : Int) := by
  have : ∀ k : Fin 8, ∀ m : Fin 128, (m : Nat) < 2 ^ (k : Nat) → IntKind.u8.wrap (((m : Nat) : Int) + 2 ^ (k : Nat) % 256) = (((m : Nat) + 2 ^ (k : Nat) : Nat) : Int) := by decide +kernel
  exact this ⟨k, hk⟩ ⟨m, by have : 2 ^ k ≤ 2 ^ 7 := Nat.pow_le_pow_right (by decide) (by omega); omega⟩ hm

end Go.Proofs.Ytoliplochipoeaa
