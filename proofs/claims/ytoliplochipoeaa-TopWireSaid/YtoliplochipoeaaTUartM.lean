/- The laws UartDecode, UartMismatch, UartFlip as contracts. -/
import Derived.Test.YtoliplochipoeaaTUartL
import Derived.Test.YtoliplochipoeaaOpen
set_option linter.unusedVariables false
set_option linter.unusedSimpArgs false
namespace Go.Proofs.Ytoliplochipoeaa
open Go.RowKit

theorem mism (b : Nat) (hb : b ≤ 255) : decode (encode b 1) 2 = (b, 1, true) ∧ decode (encode b 2) 1 = (b, 1, true) := by
  have : ∀ b : Fin 256, decode (encode b 1) 2 = ((b : Nat), 1, true) ∧ decode (encode b 2) 1 = ((b : Nat), 1, true) := by decide +kernel
  exact this ⟨b, by omega⟩
end Go.Proofs.Ytoliplochipoeaa
